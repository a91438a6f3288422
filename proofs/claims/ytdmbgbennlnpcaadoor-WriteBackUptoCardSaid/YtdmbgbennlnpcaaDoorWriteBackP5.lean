/- What the law WriteBack needs, part 5: the runner over a plain memory, words, the functions that it reaches, each by its own contract; for the inputs that each theorem names. -/
import Derived.Test.YtdmbgbennlnpcaaDoorWriteBackP4
import Derived.Test.YtdmbgbennlnpcaaDoorWriteBackP2
import Derived.Test.YtdmbgbennlnpcaaDoorWriteBackP3
namespace Go.Proofs.YtdmbgbennlnpcaaDoor.Hd
open Go.RowKit Go.Proofs.YtdmbgbennlnpcaaDoorW.PrintWords Go.Proofs.YtdmbgbennlnpcaaDoorW.PrintLast Go.Proofs.YtdmbgbennlnpcaaDoorW.PrintMore
set_option linter.unusedVariables false
set_option linter.unusedSimpArgs false
set_option maxRecDepth 8000
theorem new_ok (most : Int) (asks : Bool) (at_ : Int) (h : ¬(most < 1 ∨ most > 65536)) : (RdSt.new most asks at_).OK := by
  refine ⟨by simp [RdSt.new], by simp [RdSt.new], by simp [RdSt.new], ?_, fun _ => ?_⟩
  · show most ≤ 65536
    omega
  · show (0 : Int) ≤ most
    omega
theorem parseRequest_bad (w : World) (A : Option Addr) (bs : List Int) (cb : Nat) (most : Int) (h : most < 1 ∨ most > 65536) :
    Calls Tryd.prog 36 #[.slice A bs.length cb, .int .i64 most] w fun e w' => e = .returned (.tuple #[.agg #[.string (⟨#[]⟩ : ByteArray), .string (⟨#[]⟩ : ByteArray), .int .i64 0, .slice none 0 0], .int .i64 0, errW (some 1)]) ∧ Below w.heap.size w w' := by
  have hm := Aside0.mk h
  clear h
  go_enter Tryd.func36, Tryd.ntmps36
  go_wp2_with (first
    | ((with_reducible refine gate_dst (N := 4) rfl ?_)
       refine box_event ?hg (N := 4) ?hd (cs := #[.string (⟨#[]⟩ : ByteArray), .string (⟨#[]⟩ : ByteArray), .int .i64 0, .slice none 0 0]) (t := 38) ?hr ?_
       case hd => rfl
       case hg => rfl
       case hr => first | (go_simp; done) | (go_simp; rfl)
       intro ga hga w1 hba hb1
       have HB1 := Aside0.mk hb1
       have BA1 := Aside0.mk hba
       have GA := Aside0.mk (show w.heap.size ≤ ga by omega)
       clear hga hba hb1)
    | ((with_reducible refine gate_callee (f := 70) rfl ?_)
       refine goesL_ (some 13) rfl rfl Tryd.func70 (by kernel_rfl) rfl #[.int .i64 most] rfl (by (try simp only [List.map_toArray, List.map_cons, List.map_nil]); first | done | rfl) ?_
       (with_reducible refine (newRequest_bad _ most hm.out).mono ?_)
       rintro e w2 ⟨rfl, hb⟩
       have HB2 := Aside0.mk (below_step HB1.out hb)
       have BA2 := Aside0.mk (blk_below BA1.out hb)
       clear hb
       refine ⟨_, rfl, ?_⟩)
    | ((with_reducible refine gate_callee (f := 71) rfl ?_)
       refine goesL_ (some 20) rfl rfl Tryd.func71 (by kernel_rfl) rfl #[.pointer none, errW (some 1), .slice A bs.length cb] rfl (by (try simp only [List.map_toArray, List.map_cons, List.map_nil]); first | done | rfl) ?_
       (with_reducible refine (all_bad _ 1 _).mono ?_)
       rintro e w3 ⟨rfl, hb⟩
       have HB3 := Aside0.mk (below_step HB2.out hb)
       have BA3 := Aside0.mk (blk_below BA2.out hb)
       have ka0 : w3.cell? ⟨ga, 0, none⟩ = some (.string (⟨#[]⟩ : ByteArray)) := (blk_cell BA3.out 0).trans rfl
       have ka1 : w3.cell? ⟨ga, 1, none⟩ = some (.string (⟨#[]⟩ : ByteArray)) := (blk_cell BA3.out 1).trans rfl
       have ka2 : w3.cell? ⟨ga, 2, none⟩ = some (.int .i64 0) := (blk_cell BA3.out 2).trans rfl
       have ka3 : w3.cell? ⟨ga, 3, none⟩ = some (.slice none 0 0) := (blk_cell BA3.out 3).trans rfl
       have fa0 := blk_frozen BA3.out 0
       have fa1 := blk_frozen BA3.out 1
       have fa2 := blk_frozen BA3.out 2
       have fa3 := blk_frozen BA3.out 3
       clear hb
       rw [errW_some]
       refine ⟨_, rfl, ?_⟩))
  refine bodyPost_ret (results_ctt rfl _ _ ga 38 #[.string (⟨#[]⟩ : ByteArray), .string (⟨#[]⟩ : ByteArray), .int .i64 0, .slice none 0 0] (0, 0) _ rfl (blk_put (blk_put (blk_put (blk_put BA3.out 0 _ rfl) 1 _ rfl) 2 _ rfl) 3 _ rfl) Tryd.underlying38 rfl (by kernel_rfl)) rfl ?_
  exact ⟨rfl, below_set (below_set (below_set (below_set HB3.out GA.out) GA.out) GA.out) GA.out⟩
theorem parseRequest_err (w : World) (A : Option Addr) (bs : List Int) (cb : Nat) (most : Int) (hC : (Kd.int .u8).C w A bs.length bs) (hn : bs.length ≤ 9000000000000000000) (hx : ∀ x, x ∈ bs → 0 ≤ x ∧ x ≤ 255) (h : ¬(most < 1 ∨ most > 65536)) (x : Int) (ha : (RdSt.new most true 0).all bs = (0, some x)) :
    Calls Tryd.prog 36 #[.slice A bs.length cb, .int .i64 most] w fun e w' => e = .returned (.tuple #[.agg #[.string (⟨#[]⟩ : ByteArray), .string (⟨#[]⟩ : ByteArray), .int .i64 0, .slice none 0 0], .int .i64 0, errW (some x)]) ∧ Below w.heap.size w w' := by
  have HAL := Aside0.mk ha
  clear ha
  have HC := Aside0.mk hC
  have HX := Aside0.mk hx
  have hm := Aside0.mk h
  clear hC hx h
  go_enter Tryd.func36, Tryd.ntmps36
  go_wp2_with (first
    | ((with_reducible refine gate_dst (N := 4) rfl ?_)
       refine box_event ?hg (N := 4) ?hd (cs := #[.string (⟨#[]⟩ : ByteArray), .string (⟨#[]⟩ : ByteArray), .int .i64 0, .slice none 0 0]) (t := 38) ?hr ?_
       case hd => rfl
       case hg => rfl
       case hr => first | (go_simp; done) | (go_simp; rfl)
       intro ga hga w1 hba hb1
       have HB1 := Aside0.mk hb1
       have BA1 := Aside0.mk hba
       have GA := Aside0.mk (show w.heap.size ≤ ga by omega)
       clear hga hba hb1)
    | ((with_reducible refine gate_callee (f := 70) rfl ?_)
       refine goesL_ (some 13) rfl rfl Tryd.func70 (by kernel_rfl) rfl #[.int .i64 most] rfl (by (try simp only [List.map_toArray, List.map_cons, List.map_nil]); first | done | rfl) ?_
       (with_reducible refine (newRequest_good _ most hm.out).mono ?_)
       rintro e w2 ⟨g, rfl, hr, hb⟩
       have HB2 := Aside0.mk (below_step HB1.out hb)
       have BA2 := Aside0.mk (blk_below BA1.out hb)
       have R2 := Aside0.mk hr
       have HW := Aside0.mk hb
       clear hb hr
       refine ⟨_, rfl, ?_⟩)
    | ((with_reducible refine gate_callee (f := 71) rfl ?_)
       refine goesL_ (some 20) rfl rfl Tryd.func71 (by kernel_rfl) rfl #[.pointer (some ⟨g, 0, none⟩), errW none, .slice A bs.length cb] rfl (by (try simp only [List.map_toArray, List.map_cons, List.map_nil]); first | done | rfl) ?_
       (with_reducible refine (all_calls w1 w2 g (RdSt.new most true 0) (.slice none 0 0) (.slice none 0 0) A bs cb (Kd.C_below HC.out HB1.out) hn HX.out HW.out (new_ok most true 0 hm.out) R2.out).mono ?_)
       rintro e w3 ⟨v0, v1, rfl, hs⟩
       have R3 := Aside0.mk hs.rd
       have HB3 := Aside0.mk (below_weaken HB1.out (below_size HB1.out) ((HW.out.trans hs.chg.below)))
       have BA3 := Aside0.mk ((hs.chg.below.block ga (blk_lt BA1.out)).trans ((HW.out.block ga (blk_lt BA1.out)).trans BA1.out))
       have ka0 : w3.cell? ⟨ga, 0, none⟩ = some (.string (⟨#[]⟩ : ByteArray)) := (blk_cell BA3.out 0).trans rfl
       have ka1 : w3.cell? ⟨ga, 1, none⟩ = some (.string (⟨#[]⟩ : ByteArray)) := (blk_cell BA3.out 1).trans rfl
       have ka2 : w3.cell? ⟨ga, 2, none⟩ = some (.int .i64 0) := (blk_cell BA3.out 2).trans rfl
       have ka3 : w3.cell? ⟨ga, 3, none⟩ = some (.slice none 0 0) := (blk_cell BA3.out 3).trans rfl
       have fa0 := blk_frozen BA3.out 0
       have fa1 := blk_frozen BA3.out 1
       have fa2 := blk_frozen BA3.out 2
       have fa3 := blk_frozen BA3.out 3
       clear hs
       rw [HAL.out, errW_some]
       refine ⟨_, rfl, ?_⟩))
  refine bodyPost_ret (results_ctt rfl _ _ ga 38 #[.string (⟨#[]⟩ : ByteArray), .string (⟨#[]⟩ : ByteArray), .int .i64 0, .slice none 0 0] (0, 0) _ rfl (blk_put (blk_put (blk_put (blk_put BA3.out 0 _ rfl) 1 _ rfl) 2 _ rfl) 3 _ rfl) Tryd.underlying38 rfl (by kernel_rfl)) rfl ?_
  exact ⟨rfl, below_set (below_set (below_set (below_set HB3.out GA.out) GA.out) GA.out) GA.out⟩
theorem parseRequest_ok (w : World) (A : Option Addr) (bs : List Int) (cb : Nat) (most : Int) (hC : (Kd.int .u8).C w A bs.length bs) (hn : bs.length ≤ 9000000000000000000) (hx : ∀ x, x ∈ bs → 0 ≤ x ∧ x ≤ 255) (h : ¬(most < 1 ∨ most > 65536)) (n : Int) (ha : (RdSt.new most true 0).all bs = (n, none)) (hd : ((RdSt.new most true 0).feed bs).1.done true = true) (hfl : ((RdSt.new most true 0).feed bs).1.field.length ≤ 1000000) :
    Calls Tryd.prog 36 #[.slice A bs.length cb, .int .i64 most] w fun e w' => ∃ v, e = .returned (.tuple #[.agg #[.string ((RdSt.new most true 0).feed bs).1.qm, .string ((RdSt.new most true 0).feed bs).1.qt, .int .i64 ((RdSt.new most true 0).feed bs).1.qn, v], .int .i64 n, errW none]) ∧ Kd.R k50 50 w' w.heap.size (fun _ => True) v ((RdSt.new most true 0).feed bs).1.field ∧ Below w.heap.size w w' := by
  have HAL := Aside0.mk ha
  have HD := Aside0.mk hd
  have HF := Aside0.mk hfl
  clear ha hd hfl
  generalize hst : ((RdSt.new most true 0).feed bs).1 = st at HD HF ⊢
  have HST := Aside0.mk hst
  clear hst
  have HC := Aside0.mk hC
  have HX := Aside0.mk hx
  have hm := Aside0.mk h
  clear hC hx h
  go_enter Tryd.func36, Tryd.ntmps36
  go_wp2_with (first
    | ((with_reducible refine gate_dst (N := 4) rfl ?_)
       refine box_event ?hg (N := 4) ?hd (cs := #[.string (⟨#[]⟩ : ByteArray), .string (⟨#[]⟩ : ByteArray), .int .i64 0, .slice none 0 0]) (t := 38) ?hr ?_
       case hd => rfl
       case hg => rfl
       case hr => first | (go_simp; done) | (go_simp; rfl)
       intro ga hga w1 hba hb1
       have HB1 := Aside0.mk hb1
       have BA1 := Aside0.mk hba
       have GA := Aside0.mk (show w.heap.size ≤ ga by omega)
       clear hga hba hb1)
    | ((with_reducible refine gate_callee (f := 70) rfl ?_)
       refine goesL_ (some 13) rfl rfl Tryd.func70 (by kernel_rfl) rfl #[.int .i64 most] rfl (by (try simp only [List.map_toArray, List.map_cons, List.map_nil]); first | done | rfl) ?_
       (with_reducible refine (newRequest_good _ most hm.out).mono ?_)
       rintro e w2 ⟨g, rfl, hr, hb⟩
       have HB2 := Aside0.mk (below_step HB1.out hb)
       have BA2 := Aside0.mk (blk_below BA1.out hb)
       have R2 := Aside0.mk hr
       have HW := Aside0.mk hb
       clear hb hr
       refine ⟨_, rfl, ?_⟩)
    | ((with_reducible refine gate_callee (f := 71) rfl ?_)
       refine goesL_ (some 20) rfl rfl Tryd.func71 (by kernel_rfl) rfl #[.pointer (some ⟨g, 0, none⟩), errW none, .slice A bs.length cb] rfl (by (try simp only [List.map_toArray, List.map_cons, List.map_nil]); first | done | rfl) ?_
       (with_reducible refine (all_calls w1 w2 g (RdSt.new most true 0) (.slice none 0 0) (.slice none 0 0) A bs cb (Kd.C_below HC.out HB1.out) hn HX.out HW.out (new_ok most true 0 hm.out) R2.out).mono ?_)
       rintro e w3 ⟨v0, v1, rfl, hs⟩
       have R3 := Aside0.mk (HST.out ▸ hs.rd)
       have HB3 := Aside0.mk (below_weaken HB1.out (below_size HB1.out) ((HW.out.trans hs.chg.below)))
       have BA3 := Aside0.mk ((hs.chg.below.block ga (blk_lt BA1.out)).trans ((HW.out.block ga (blk_lt BA1.out)).trans BA1.out))
       have ka0 : w3.cell? ⟨ga, 0, none⟩ = some (.string (⟨#[]⟩ : ByteArray)) := (blk_cell BA3.out 0).trans rfl
       have ka1 : w3.cell? ⟨ga, 1, none⟩ = some (.string (⟨#[]⟩ : ByteArray)) := (blk_cell BA3.out 1).trans rfl
       have ka2 : w3.cell? ⟨ga, 2, none⟩ = some (.int .i64 0) := (blk_cell BA3.out 2).trans rfl
       have ka3 : w3.cell? ⟨ga, 3, none⟩ = some (.slice none 0 0) := (blk_cell BA3.out 3).trans rfl
       have fa0 := blk_frozen BA3.out 0
       have fa1 := blk_frozen BA3.out 1
       have fa2 := blk_frozen BA3.out 2
       have fa3 := blk_frozen BA3.out 3
       clear hs
       rw [HAL.out, errW_none]
       refine ⟨_, rfl, ?_⟩)
    | ((with_reducible refine gate_callee (f := 72) rfl ?_)
       refine goesL_ (some 29) rfl rfl Tryd.func72 (by kernel_rfl) rfl #[.pointer (some ⟨g, 0, none⟩)] rfl (by (try simp only [List.map_toArray, List.map_cons, List.map_nil]); first | done | rfl) ?_
       (with_reducible refine (request_yes _ _ g st v0 v1 R3.out HD.out HF.out).mono ?_)
       rintro e w4 ⟨v, rfl, hr, hb⟩
       obtain ⟨A5, c5, ev, _, _⟩ := Kd.R_reads hr
       subst ev
       have R4 := Aside0.mk (Kd.R_lower hr (below_size HB3.out))
       have HB4 := Aside0.mk (below_step HB3.out hb)
       have BA4 := Aside0.mk (blk_below BA3.out hb)
       clear hb hr
       rw [errW_none]
       refine ⟨_, rfl, ?_⟩)
    | ((with_reducible refine gate_dst (N := 10) rfl ?_)
       refine box_event ?hg (N := 10) ?hd (cs := #[.string (⟨#[]⟩ : ByteArray), .string (⟨#[]⟩ : ByteArray), .int .i64 0, .slice none 0 0]) (t := 38) ?hr ?_
       case hd => rfl
       case hg => rfl
       case hr => first | (go_simp; done) | (go_simp; rfl)
       intro gb hgb w5 hbb hb5
       have HB5 := Aside0.mk (below_step HB4.out hb5)
       have BA5 := Aside0.mk (blk_below BA4.out hb5)
       have BB5 := Aside0.mk hbb
       have R5 := Aside0.mk (Kd.R_below R4.out hb5)
       have GB := Aside0.mk (show w.heap.size ≤ gb by have := below_size HB4.out; omega)
       have NN := Aside0.mk (show ga ≠ gb from fun e => by have := blk_lt BA4.out; omega)
       have n3 : (ga = gb) = False := eq_false NN.out
       have n4 : (gb = ga) = False := eq_false (fun e => NN.out e.symm)
       have kb0 : w5.cell? ⟨ga, 0, none⟩ = some (.string (⟨#[]⟩ : ByteArray)) := (blk_cell BA5.out 0).trans rfl
       have kb1 : w5.cell? ⟨ga, 1, none⟩ = some (.string (⟨#[]⟩ : ByteArray)) := (blk_cell BA5.out 1).trans rfl
       have kb2 : w5.cell? ⟨ga, 2, none⟩ = some (.int .i64 0) := (blk_cell BA5.out 2).trans rfl
       have kb3 : w5.cell? ⟨ga, 3, none⟩ = some (.slice none 0 0) := (blk_cell BA5.out 3).trans rfl
       have fb0 := blk_frozen BA5.out 0
       have fb1 := blk_frozen BA5.out 1
       have fb2 := blk_frozen BA5.out 2
       have fb3 := blk_frozen BA5.out 3
       have kc0 : w5.cell? ⟨gb, 0, none⟩ = some (.string (⟨#[]⟩ : ByteArray)) := (blk_cell BB5.out 0).trans rfl
       have kc1 : w5.cell? ⟨gb, 1, none⟩ = some (.string (⟨#[]⟩ : ByteArray)) := (blk_cell BB5.out 1).trans rfl
       have kc2 : w5.cell? ⟨gb, 2, none⟩ = some (.int .i64 0) := (blk_cell BB5.out 2).trans rfl
       have kc3 : w5.cell? ⟨gb, 3, none⟩ = some (.slice none 0 0) := (blk_cell BB5.out 3).trans rfl
       have fc0 := blk_frozen BB5.out 0
       have fc1 := blk_frozen BB5.out 1
       have fc2 := blk_frozen BB5.out 2
       have fc3 := blk_frozen BB5.out 3
       clear hgb hbb hb5))
  have BAW := Aside0.mk (blk_far (blk_far (blk_far (blk_far BA5.out (p := ⟨gb, 0, none⟩) NN.out (.string st.qm)) (p := ⟨gb, 1, none⟩) NN.out (.string st.qt)) (p := ⟨gb, 2, none⟩) NN.out (.int .i64 st.qn)) (p := ⟨gb, 3, none⟩) NN.out (.slice A5 st.field.length c5))
  refine bodyPost_ret (results_ctt rfl _ _ ga 38 #[.string st.qm, .string st.qt, .int .i64 st.qn, .slice A5 st.field.length c5] (0, 0) _ rfl (blk_put (blk_put (blk_put (blk_put BAW.out 0 _ rfl) 1 _ rfl) 2 _ rfl) 3 _ rfl) Tryd.underlying38 rfl (by kernel_rfl)) rfl ?_
  refine ⟨_, rfl, ?_, ?_⟩
  · have q0 := Kd.R_set R5.out BB5.out (by decide) 0 (.string st.qm)
    have d0 := blk_set BB5.out 0 (.string st.qm)
    have q1 := Kd.R_set q0 d0 (by decide) 1 (.string st.qt)
    have d1 := blk_set d0 1 (.string st.qt)
    have q2 := Kd.R_set q1 d1 (by decide) 2 (.int .i64 st.qn)
    have d2 := blk_set d1 2 (.int .i64 st.qn)
    have q3 := Kd.R_set q2 d2 (by decide) 3 (.slice A5 st.field.length c5)
    have r1 := Kd.R_set q3 BAW.out (by decide) 0 (.string st.qm)
    have b1 := blk_set BAW.out 0 (.string st.qm)
    have r2 := Kd.R_set r1 b1 (by decide) 1 (.string st.qt)
    have b2 := blk_set b1 1 (.string st.qt)
    have r3 := Kd.R_set r2 b2 (by decide) 2 (.int .i64 st.qn)
    have b3 := blk_set b2 2 (.int .i64 st.qn)
    exact Kd.R_set r3 b3 (by decide) 3 _
  · exact below_set (below_set (below_set (below_set (below_set (below_set (below_set (below_set HB5.out GB.out) GB.out) GB.out) GB.out) GA.out) GA.out) GA.out) GA.out
theorem parseResponse_bad (w : World) (A : Option Addr) (bs : List Int) (cb : Nat) (most : Int) (h : most < 1 ∨ most > 65536) :
    Calls Tryd.prog 37 #[.slice A bs.length cb, .int .i64 most] w fun e w' => e = .returned (.tuple #[.agg #[.int .i64 0, .string (⟨#[]⟩ : ByteArray), .int .i64 0, .slice none 0 0], .int .i64 0, errW (some 1)]) ∧ Below w.heap.size w w' := by
  have hm := Aside0.mk h
  clear h
  go_enter Tryd.func37, Tryd.ntmps37
  go_wp2_with (first
    | ((with_reducible refine gate_dst (N := 4) rfl ?_)
       refine box_event ?hg (N := 4) ?hd (cs := #[.int .i64 0, .string (⟨#[]⟩ : ByteArray), .int .i64 0, .slice none 0 0]) (t := 24) ?hr ?_
       case hd => rfl
       case hg => rfl
       case hr => first | (go_simp; done) | (go_simp; rfl)
       intro ga hga w1 hba hb1
       have HB1 := Aside0.mk hb1
       have BA1 := Aside0.mk hba
       have GA := Aside0.mk (show w.heap.size ≤ ga by omega)
       clear hga hba hb1)
    | ((with_reducible refine gate_callee (f := 73) rfl ?_)
       refine goesL_ (some 13) rfl rfl Tryd.func73 (by kernel_rfl) rfl #[.int .i64 most] rfl (by (try simp only [List.map_toArray, List.map_cons, List.map_nil]); first | done | rfl) ?_
       (with_reducible refine (newResponse_bad _ most hm.out).mono ?_)
       rintro e w2 ⟨rfl, hb⟩
       have HB2 := Aside0.mk (below_step HB1.out hb)
       have BA2 := Aside0.mk (blk_below BA1.out hb)
       clear hb
       refine ⟨_, rfl, ?_⟩)
    | ((with_reducible refine gate_callee (f := 71) rfl ?_)
       refine goesL_ (some 20) rfl rfl Tryd.func71 (by kernel_rfl) rfl #[.pointer none, errW (some 1), .slice A bs.length cb] rfl (by (try simp only [List.map_toArray, List.map_cons, List.map_nil]); first | done | rfl) ?_
       (with_reducible refine (all_bad _ 1 _).mono ?_)
       rintro e w3 ⟨rfl, hb⟩
       have HB3 := Aside0.mk (below_step HB2.out hb)
       have BA3 := Aside0.mk (blk_below BA2.out hb)
       have ka0 : w3.cell? ⟨ga, 0, none⟩ = some (.int .i64 0) := (blk_cell BA3.out 0).trans rfl
       have ka1 : w3.cell? ⟨ga, 1, none⟩ = some (.string (⟨#[]⟩ : ByteArray)) := (blk_cell BA3.out 1).trans rfl
       have ka2 : w3.cell? ⟨ga, 2, none⟩ = some (.int .i64 0) := (blk_cell BA3.out 2).trans rfl
       have ka3 : w3.cell? ⟨ga, 3, none⟩ = some (.slice none 0 0) := (blk_cell BA3.out 3).trans rfl
       have fa0 := blk_frozen BA3.out 0
       have fa1 := blk_frozen BA3.out 1
       have fa2 := blk_frozen BA3.out 2
       have fa3 := blk_frozen BA3.out 3
       clear hb
       rw [errW_some]
       refine ⟨_, rfl, ?_⟩))
  refine bodyPost_ret (results_ctt rfl _ _ ga 24 #[.int .i64 0, .string (⟨#[]⟩ : ByteArray), .int .i64 0, .slice none 0 0] (0, 0) _ rfl (blk_put (blk_put (blk_put (blk_put BA3.out 0 _ rfl) 1 _ rfl) 2 _ rfl) 3 _ rfl) Tryd.underlying24 rfl (by kernel_rfl)) rfl ?_
  exact ⟨rfl, below_set (below_set (below_set (below_set HB3.out GA.out) GA.out) GA.out) GA.out⟩
theorem parseResponse_err (w : World) (A : Option Addr) (bs : List Int) (cb : Nat) (most : Int) (hC : (Kd.int .u8).C w A bs.length bs) (hn : bs.length ≤ 9000000000000000000) (hx : ∀ x, x ∈ bs → 0 ≤ x ∧ x ≤ 255) (h : ¬(most < 1 ∨ most > 65536)) (x : Int) (ha : (RdSt.new most false 3).all bs = (0, some x)) :
    Calls Tryd.prog 37 #[.slice A bs.length cb, .int .i64 most] w fun e w' => e = .returned (.tuple #[.agg #[.int .i64 0, .string (⟨#[]⟩ : ByteArray), .int .i64 0, .slice none 0 0], .int .i64 0, errW (some x)]) ∧ Below w.heap.size w w' := by
  have HAL := Aside0.mk ha
  clear ha
  have HC := Aside0.mk hC
  have HX := Aside0.mk hx
  have hm := Aside0.mk h
  clear hC hx h
  go_enter Tryd.func37, Tryd.ntmps37
  go_wp2_with (first
    | ((with_reducible refine gate_dst (N := 4) rfl ?_)
       refine box_event ?hg (N := 4) ?hd (cs := #[.int .i64 0, .string (⟨#[]⟩ : ByteArray), .int .i64 0, .slice none 0 0]) (t := 24) ?hr ?_
       case hd => rfl
       case hg => rfl
       case hr => first | (go_simp; done) | (go_simp; rfl)
       intro ga hga w1 hba hb1
       have HB1 := Aside0.mk hb1
       have BA1 := Aside0.mk hba
       have GA := Aside0.mk (show w.heap.size ≤ ga by omega)
       clear hga hba hb1)
    | ((with_reducible refine gate_callee (f := 73) rfl ?_)
       refine goesL_ (some 13) rfl rfl Tryd.func73 (by kernel_rfl) rfl #[.int .i64 most] rfl (by (try simp only [List.map_toArray, List.map_cons, List.map_nil]); first | done | rfl) ?_
       (with_reducible refine (newResponse_good _ most hm.out).mono ?_)
       rintro e w2 ⟨g, rfl, hr, hb⟩
       have HB2 := Aside0.mk (below_step HB1.out hb)
       have BA2 := Aside0.mk (blk_below BA1.out hb)
       have R2 := Aside0.mk hr
       have HW := Aside0.mk hb
       clear hb hr
       refine ⟨_, rfl, ?_⟩)
    | ((with_reducible refine gate_callee (f := 71) rfl ?_)
       refine goesL_ (some 20) rfl rfl Tryd.func71 (by kernel_rfl) rfl #[.pointer (some ⟨g, 0, none⟩), errW none, .slice A bs.length cb] rfl (by (try simp only [List.map_toArray, List.map_cons, List.map_nil]); first | done | rfl) ?_
       (with_reducible refine (all_calls w1 w2 g (RdSt.new most false 3) (.slice none 0 0) (.slice none 0 0) A bs cb (Kd.C_below HC.out HB1.out) hn HX.out HW.out (new_ok most false 3 hm.out) R2.out).mono ?_)
       rintro e w3 ⟨v0, v1, rfl, hs⟩
       have R3 := Aside0.mk hs.rd
       have HB3 := Aside0.mk (below_weaken HB1.out (below_size HB1.out) ((HW.out.trans hs.chg.below)))
       have BA3 := Aside0.mk ((hs.chg.below.block ga (blk_lt BA1.out)).trans ((HW.out.block ga (blk_lt BA1.out)).trans BA1.out))
       have ka0 : w3.cell? ⟨ga, 0, none⟩ = some (.int .i64 0) := (blk_cell BA3.out 0).trans rfl
       have ka1 : w3.cell? ⟨ga, 1, none⟩ = some (.string (⟨#[]⟩ : ByteArray)) := (blk_cell BA3.out 1).trans rfl
       have ka2 : w3.cell? ⟨ga, 2, none⟩ = some (.int .i64 0) := (blk_cell BA3.out 2).trans rfl
       have ka3 : w3.cell? ⟨ga, 3, none⟩ = some (.slice none 0 0) := (blk_cell BA3.out 3).trans rfl
       have fa0 := blk_frozen BA3.out 0
       have fa1 := blk_frozen BA3.out 1
       have fa2 := blk_frozen BA3.out 2
       have fa3 := blk_frozen BA3.out 3
       clear hs
       rw [HAL.out, errW_some]
       refine ⟨_, rfl, ?_⟩))
  refine bodyPost_ret (results_ctt rfl _ _ ga 24 #[.int .i64 0, .string (⟨#[]⟩ : ByteArray), .int .i64 0, .slice none 0 0] (0, 0) _ rfl (blk_put (blk_put (blk_put (blk_put BA3.out 0 _ rfl) 1 _ rfl) 2 _ rfl) 3 _ rfl) Tryd.underlying24 rfl (by kernel_rfl)) rfl ?_
  exact ⟨rfl, below_set (below_set (below_set (below_set HB3.out GA.out) GA.out) GA.out) GA.out⟩
theorem parseResponse_ok (w : World) (A : Option Addr) (bs : List Int) (cb : Nat) (most : Int) (hC : (Kd.int .u8).C w A bs.length bs) (hn : bs.length ≤ 9000000000000000000) (hx : ∀ x, x ∈ bs → 0 ≤ x ∧ x ≤ 255) (h : ¬(most < 1 ∨ most > 65536)) (n : Int) (ha : (RdSt.new most false 3).all bs = (n, none)) (hd : ((RdSt.new most false 3).feed bs).1.done false = true) (hfl : ((RdSt.new most false 3).feed bs).1.field.length ≤ 1000000) :
    Calls Tryd.prog 37 #[.slice A bs.length cb, .int .i64 most] w fun e w' => ∃ v, e = .returned (.tuple #[.agg #[.int .i64 ((RdSt.new most false 3).feed bs).1.ps, .string ((RdSt.new most false 3).feed bs).1.pr, .int .i64 ((RdSt.new most false 3).feed bs).1.pn, v], .int .i64 n, errW none]) ∧ Kd.R k50 50 w' w.heap.size (fun _ => True) v ((RdSt.new most false 3).feed bs).1.field ∧ Below w.heap.size w w' := by
  have HAL := Aside0.mk ha
  have HD := Aside0.mk hd
  have HF := Aside0.mk hfl
  clear ha hd hfl
  generalize hst : ((RdSt.new most false 3).feed bs).1 = st at HD HF ⊢
  have HST := Aside0.mk hst
  clear hst
  have HC := Aside0.mk hC
  have HX := Aside0.mk hx
  have hm := Aside0.mk h
  clear hC hx h
  go_enter Tryd.func37, Tryd.ntmps37
  go_wp2_with (first
    | ((with_reducible refine gate_dst (N := 4) rfl ?_)
       refine box_event ?hg (N := 4) ?hd (cs := #[.int .i64 0, .string (⟨#[]⟩ : ByteArray), .int .i64 0, .slice none 0 0]) (t := 24) ?hr ?_
       case hd => rfl
       case hg => rfl
       case hr => first | (go_simp; done) | (go_simp; rfl)
       intro ga hga w1 hba hb1
       have HB1 := Aside0.mk hb1
       have BA1 := Aside0.mk hba
       have GA := Aside0.mk (show w.heap.size ≤ ga by omega)
       clear hga hba hb1)
    | ((with_reducible refine gate_callee (f := 73) rfl ?_)
       refine goesL_ (some 13) rfl rfl Tryd.func73 (by kernel_rfl) rfl #[.int .i64 most] rfl (by (try simp only [List.map_toArray, List.map_cons, List.map_nil]); first | done | rfl) ?_
       (with_reducible refine (newResponse_good _ most hm.out).mono ?_)
       rintro e w2 ⟨g, rfl, hr, hb⟩
       have HB2 := Aside0.mk (below_step HB1.out hb)
       have BA2 := Aside0.mk (blk_below BA1.out hb)
       have R2 := Aside0.mk hr
       have HW := Aside0.mk hb
       clear hb hr
       refine ⟨_, rfl, ?_⟩)
    | ((with_reducible refine gate_callee (f := 71) rfl ?_)
       refine goesL_ (some 20) rfl rfl Tryd.func71 (by kernel_rfl) rfl #[.pointer (some ⟨g, 0, none⟩), errW none, .slice A bs.length cb] rfl (by (try simp only [List.map_toArray, List.map_cons, List.map_nil]); first | done | rfl) ?_
       (with_reducible refine (all_calls w1 w2 g (RdSt.new most false 3) (.slice none 0 0) (.slice none 0 0) A bs cb (Kd.C_below HC.out HB1.out) hn HX.out HW.out (new_ok most false 3 hm.out) R2.out).mono ?_)
       rintro e w3 ⟨v0, v1, rfl, hs⟩
       have R3 := Aside0.mk (HST.out ▸ hs.rd)
       have HB3 := Aside0.mk (below_weaken HB1.out (below_size HB1.out) ((HW.out.trans hs.chg.below)))
       have BA3 := Aside0.mk ((hs.chg.below.block ga (blk_lt BA1.out)).trans ((HW.out.block ga (blk_lt BA1.out)).trans BA1.out))
       have ka0 : w3.cell? ⟨ga, 0, none⟩ = some (.int .i64 0) := (blk_cell BA3.out 0).trans rfl
       have ka1 : w3.cell? ⟨ga, 1, none⟩ = some (.string (⟨#[]⟩ : ByteArray)) := (blk_cell BA3.out 1).trans rfl
       have ka2 : w3.cell? ⟨ga, 2, none⟩ = some (.int .i64 0) := (blk_cell BA3.out 2).trans rfl
       have ka3 : w3.cell? ⟨ga, 3, none⟩ = some (.slice none 0 0) := (blk_cell BA3.out 3).trans rfl
       have fa0 := blk_frozen BA3.out 0
       have fa1 := blk_frozen BA3.out 1
       have fa2 := blk_frozen BA3.out 2
       have fa3 := blk_frozen BA3.out 3
       clear hs
       rw [HAL.out, errW_none]
       refine ⟨_, rfl, ?_⟩)
    | ((with_reducible refine gate_callee (f := 74) rfl ?_)
       refine goesL_ (some 29) rfl rfl Tryd.func74 (by kernel_rfl) rfl #[.pointer (some ⟨g, 0, none⟩)] rfl (by (try simp only [List.map_toArray, List.map_cons, List.map_nil]); first | done | rfl) ?_
       (with_reducible refine (response_yes _ _ g st v0 v1 R3.out HD.out HF.out).mono ?_)
       rintro e w4 ⟨v, rfl, hr, hb⟩
       obtain ⟨A5, c5, ev, _, _⟩ := Kd.R_reads hr
       subst ev
       have R4 := Aside0.mk (Kd.R_lower hr (below_size HB3.out))
       have HB4 := Aside0.mk (below_step HB3.out hb)
       have BA4 := Aside0.mk (blk_below BA3.out hb)
       clear hb hr
       rw [errW_none]
       refine ⟨_, rfl, ?_⟩)
    | ((with_reducible refine gate_dst (N := 10) rfl ?_)
       refine box_event ?hg (N := 10) ?hd (cs := #[.int .i64 0, .string (⟨#[]⟩ : ByteArray), .int .i64 0, .slice none 0 0]) (t := 24) ?hr ?_
       case hd => rfl
       case hg => rfl
       case hr => first | (go_simp; done) | (go_simp; rfl)
       intro gb hgb w5 hbb hb5
       have HB5 := Aside0.mk (below_step HB4.out hb5)
       have BA5 := Aside0.mk (blk_below BA4.out hb5)
       have BB5 := Aside0.mk hbb
       have R5 := Aside0.mk (Kd.R_below R4.out hb5)
       have GB := Aside0.mk (show w.heap.size ≤ gb by have := below_size HB4.out; omega)
       have NN := Aside0.mk (show ga ≠ gb from fun e => by have := blk_lt BA4.out; omega)
       have n3 : (ga = gb) = False := eq_false NN.out
       have n4 : (gb = ga) = False := eq_false (fun e => NN.out e.symm)
       have kb0 : w5.cell? ⟨ga, 0, none⟩ = some (.int .i64 0) := (blk_cell BA5.out 0).trans rfl
       have kb1 : w5.cell? ⟨ga, 1, none⟩ = some (.string (⟨#[]⟩ : ByteArray)) := (blk_cell BA5.out 1).trans rfl
       have kb2 : w5.cell? ⟨ga, 2, none⟩ = some (.int .i64 0) := (blk_cell BA5.out 2).trans rfl
       have kb3 : w5.cell? ⟨ga, 3, none⟩ = some (.slice none 0 0) := (blk_cell BA5.out 3).trans rfl
       have fb0 := blk_frozen BA5.out 0
       have fb1 := blk_frozen BA5.out 1
       have fb2 := blk_frozen BA5.out 2
       have fb3 := blk_frozen BA5.out 3
       have kc0 : w5.cell? ⟨gb, 0, none⟩ = some (.int .i64 0) := (blk_cell BB5.out 0).trans rfl
       have kc1 : w5.cell? ⟨gb, 1, none⟩ = some (.string (⟨#[]⟩ : ByteArray)) := (blk_cell BB5.out 1).trans rfl
       have kc2 : w5.cell? ⟨gb, 2, none⟩ = some (.int .i64 0) := (blk_cell BB5.out 2).trans rfl
       have kc3 : w5.cell? ⟨gb, 3, none⟩ = some (.slice none 0 0) := (blk_cell BB5.out 3).trans rfl
       have fc0 := blk_frozen BB5.out 0
       have fc1 := blk_frozen BB5.out 1
       have fc2 := blk_frozen BB5.out 2
       have fc3 := blk_frozen BB5.out 3
       clear hgb hbb hb5))
  have BAW := Aside0.mk (blk_far (blk_far (blk_far (blk_far BA5.out (p := ⟨gb, 0, none⟩) NN.out (.int .i64 st.ps)) (p := ⟨gb, 1, none⟩) NN.out (.string st.pr)) (p := ⟨gb, 2, none⟩) NN.out (.int .i64 st.pn)) (p := ⟨gb, 3, none⟩) NN.out (.slice A5 st.field.length c5))
  refine bodyPost_ret (results_ctt rfl _ _ ga 24 #[.int .i64 st.ps, .string st.pr, .int .i64 st.pn, .slice A5 st.field.length c5] (0, 0) _ rfl (blk_put (blk_put (blk_put (blk_put BAW.out 0 _ rfl) 1 _ rfl) 2 _ rfl) 3 _ rfl) Tryd.underlying24 rfl (by kernel_rfl)) rfl ?_
  refine ⟨_, rfl, ?_, ?_⟩
  · have q0 := Kd.R_set R5.out BB5.out (by decide) 0 (.int .i64 st.ps)
    have d0 := blk_set BB5.out 0 (.int .i64 st.ps)
    have q1 := Kd.R_set q0 d0 (by decide) 1 (.string st.pr)
    have d1 := blk_set d0 1 (.string st.pr)
    have q2 := Kd.R_set q1 d1 (by decide) 2 (.int .i64 st.pn)
    have d2 := blk_set d1 2 (.int .i64 st.pn)
    have q3 := Kd.R_set q2 d2 (by decide) 3 (.slice A5 st.field.length c5)
    have r1 := Kd.R_set q3 BAW.out (by decide) 0 (.int .i64 st.ps)
    have b1 := blk_set BAW.out 0 (.int .i64 st.ps)
    have r2 := Kd.R_set r1 b1 (by decide) 1 (.string st.pr)
    have b2 := blk_set b1 1 (.string st.pr)
    have r3 := Kd.R_set r2 b2 (by decide) 2 (.int .i64 st.pn)
    have b3 := blk_set b2 2 (.int .i64 st.pn)
    exact Kd.R_set r3 b3 (by decide) 3 _
  · exact below_set (below_set (below_set (below_set (below_set (below_set (below_set (below_set HB5.out GB.out) GB.out) GB.out) GB.out) GA.out) GA.out) GA.out) GA.out
end Go.Proofs.YtdmbgbennlnpcaaDoor.Hd
namespace Go.Proofs.YtdmbgbennlnpcaaDoor.Hd
open Go.RowKit Go.Proofs.YtdmbgbennlnpcaaDoorW.PrintWords Go.Proofs.YtdmbgbennlnpcaaDoorW.PrintLast Go.Proofs.YtdmbgbennlnpcaaDoorW.PrintMore
set_option linter.unusedVariables false
set_option linter.unusedSimpArgs false
theorem byte_asks (s : RdSt) (c : Int) : (s.byte c).1.asks = s.asks := by
  unfold RdSt.byte
  split
  · rfl
  · split
    · exact (fld_near _ _).asks
    · split
      · exact (req_near _ _).asks
      · exact (stat_near _ _).asks
theorem feed_keep : ∀ (bs : List Int) (s : RdSt), s.OK → (s.feed bs).1.OK ∧ (s.feed bs).1.asks = s.asks
  | [], s, h => ⟨h, rfl⟩
  | c :: l, s, h => by
    rw [RdSt.feed]
    split
    · have k := feed_keep l {(s.byte c).1 with err := (s.byte c).2} (byte_ok s c h)
      exact ⟨k.1, k.2.trans (byte_asks s c)⟩
    · exact ⟨h, rfl⟩
def RdSt.res {α : Type} (s : RdSt) (bs : List Int) (no : Int → α) (yes : RdSt → Int → α) : α :=
  match (s.feed bs).1.err with
  | some x => no x
  | none => if (s.feed bs).1.at_ = 11 then yes (s.feed bs).1 (s.feed bs).2 else no 32
theorem res_cases {α : Type} (s : RdSt) (bs : List Int) (no : Int → α) (yes : RdSt → Int → α) (h : s.OK) :
    (∃ x, s.all bs = (0, some x) ∧ s.res bs no yes = no x) ∨ (∃ n, s.all bs = (n, none) ∧ (s.feed bs).1.done s.asks = true ∧ (s.feed bs).1.field.length ≤ 1000000 ∧ s.res bs no yes = yes (s.feed bs).1 n) := by
  have hk := feed_keep bs s h
  unfold RdSt.res RdSt.all
  cases he : (s.feed bs).1.err with
  | some x => exact .inl ⟨x, rfl, rfl⟩
  | none =>
    by_cases ha : (s.feed bs).1.at_ = 11
    · simp only [if_pos ha]
      refine .inr ⟨_, rfl, ?_, ?_, rfl⟩
      · unfold RdSt.done
        rw [he, ha, hk.2]
        simp
      · have h1 := hk.1.field
        have h2 := hk.1.in_ he
        have h3 := hk.1.most
        omega
    · simp only [if_neg ha]
      exact .inl ⟨32, rfl, rfl⟩
end Go.Proofs.YtdmbgbennlnpcaaDoor.Hd
namespace Go.Proofs.YtdmbgbennlnpcaaDoor.Hd
open Go.RowKit Go.Proofs.YtdmbgbennlnpcaaDoorW.PrintWords Go.Proofs.YtdmbgbennlnpcaaDoorW.PrintLast Go.Proofs.YtdmbgbennlnpcaaDoorW.PrintMore
set_option linter.unusedVariables false
set_option linter.unusedSimpArgs false
theorem strOf_bytes (s : ByteArray) : strOfNums (bytesOf s) = s := by
  unfold strOfNums bytesOf
  rw [List.map_map]
  have h : (fun b : UInt8 => UInt8.ofNat ((b.toNat : Int)).toNat) = id := by
    funext b
    simp
  cases s with | mk d =>
  simp only [Function.comp_def, h, List.map_id_fun, id, Array.toArray_toList]
def RdSt.step (s : RdSt) (c : Int) : RdSt := {(s.byte c).1 with err := (s.byte c).2}
inductive Eats : RdSt → List Int → RdSt → Prop
  | nil (s : RdSt) : Eats s [] s
  | cons {s t : RdSt} {c : Int} {l : List Int} (h1 : s.err = none) (h2 : s.at_ ≠ 11) (h3 : Eats (s.step c) l t) : Eats s (c :: l) t
theorem Eats.app {s t u : RdSt} {l m : List Int} (h : Eats s l t) (k : Eats t m u) : Eats s (l ++ m) u := by
  induction h with
  | nil => exact k
  | cons h1 h2 h3 ih => exact .cons h1 h2 (ih k)
theorem Eats.feed {s t : RdSt} {l : List Int} (h : Eats s l t) (m : List Int) : s.feed (l ++ m) = ((t.feed m).1, l.length + (t.feed m).2) := by
  induction h with
  | nil => simp
  | cons h1 h2 h3 ih =>
    rw [List.cons_append, RdSt.feed, if_pos ⟨h1, h2⟩]
    have e := ih
    unfold RdSt.step at e
    rw [e]
    simp only [List.length_cons]
    congr 1
    omega
theorem Eats.stop {s t : RdSt} {l : List Int} (h : Eats s l t) (ht : t.err ≠ none ∨ t.at_ = 11) (m : List Int) : s.feed (l ++ m) = (t, l.length) := by
  rw [h.feed]
  cases m with
  | nil => simp [RdSt.feed]
  | cons c m =>
    rw [RdSt.feed, if_neg (fun q => ht.elim (fun a => a q.1) (fun a => q.2 a))]
    simp
theorem Eats.cut {s t : RdSt} : ∀ {l m : List Int}, Eats s (l ++ m) t → ∃ u, Eats s l u ∧ Eats u m t ∧ (m ≠ [] → u.err = none ∧ u.at_ ≠ 11)
  | [], m, h => ⟨s, .nil s, h, fun hm => by cases h with | nil => exact absurd rfl hm | cons h1 h2 h3 => exact ⟨h1, h2⟩⟩
  | c :: l, m, h => by
    cases h with
    | cons h1 h2 h3 =>
      obtain ⟨u, a, b, d⟩ := Eats.cut h3
      exact ⟨u, .cons h1 h2 a, b, d⟩
def RdSt.more (s : RdSt) (l : List Int) : RdSt := {s with word := s.word ++ l, len := s.len + l.length}
theorem more_nil (s : RdSt) : s.more [] = s := by simp [RdSt.more]
theorem more_more (s : RdSt) (l m : List Int) : (s.more l).more m = s.more (l ++ m) := by
  simp only [RdSt.more, List.append_assoc, List.length_append]
  congr 1
  push_cast
  omega
structure Live (s : RdSt) (k : Int) (b : Bool) : Prop where
  err : s.err = none
  at_ : s.at_ = k
  asks : s.asks = b
  field : s.field.length ≤ 64
theorem Live.more {s : RdSt} {k : Int} {b : Bool} (h : Live s k b) (l : List Int) : Live (s.more l) k b := ⟨h.err, h.at_, h.asks, h.field⟩
def Goes (s : RdSt) (c : Int) : Prop := s.len + 1 ≤ s.most → s.step c = s.more [c]
theorem step_end {s t : RdSt} {c er : Int} (hl : t.len ≤ t.most) (hf : t.field.length ≤ 64) (hb : s.byte c = (t, judge t true er)) : s.step c = {t with err := none} := by
  unfold RdSt.step
  rw [hb]
  unfold judge
  rw [if_neg (by omega), if_pos rfl, if_neg (by omega)]
theorem push_goes {s : RdSt} {k : Int} {b : Bool} (h : Live s k b) {c er : Int} (hb : s.byte c = (({s with len := s.len + 1} : RdSt).push c, judge (({s with len := s.len + 1} : RdSt).push c) true er)) : Goes s c := by
  intro hl
  rw [step_end (t := ({s with len := s.len + 1} : RdSt).push c) hl h.field hb]
  have he := h.err
  cases s
  simp_all [RdSt.push, RdSt.more]
theorem eats_run {k : Int} {b : Bool} (hk : k ≠ 11) (p : Int → Bool) (hs : ∀ s c, Live s k b → p c = true → Goes s c) : ∀ (l : List Int) (s : RdSt), Live s k b → s.len + l.length ≤ s.most → (∀ c ∈ l, p c = true) → Eats s l (s.more l)
  | [], s, _, _, _ => by rw [more_nil]; exact .nil s
  | c :: l, s, h, hl, hp => by
    have hl' : s.len + (l.length + 1 : Nat) ≤ s.most := hl
    have g := hs s c h (hp c List.mem_cons_self) (by omega)
    refine .cons h.err (by rw [h.at_]; exact hk) ?_
    have e := eats_run hk p hs l (s.more [c]) (h.more _) (by show s.len + (([c] : List Int).length : Nat) + l.length ≤ s.most; simp only [List.length_cons, List.length_nil]; omega) (fun x hx => hp x (List.mem_cons_of_mem _ hx))
    rw [more_more] at e
    rw [g]
    exact e
theorem goes_method (s : RdSt) (c : Int) (h : Live s 0 true) (hc : isTok c = true) : Goes s c := by
  refine push_goes h (er := 20) ?_
  have hn : c ≠ 32 := fun e => by subst e; exact absurd hc (by decide)
  unfold RdSt.byte RdSt.reqLine
  simp [h.at_, h.asks, hn, hc]
theorem goes_target (s : RdSt) (c : Int) (h : Live s 1 true) (hc : isVis c = true) : Goes s c := by
  refine push_goes h (er := 20) ?_
  have hn : c ≠ 32 := fun e => by subst e; exact absurd hc (by decide)
  unfold RdSt.byte RdSt.reqLine
  simp [h.at_, h.asks, hn, hc]
theorem goes_ver (s : RdSt) (c : Int) (h : Live s 2 true) (hc : isVersion s.word c = true) : Goes s c := by
  refine push_goes h (er := 20) ?_
  have hn : ¬ (c = 13 ∧ s.word.length = 8) := by
    rintro ⟨e, e2⟩
    unfold isVersion at hc
    rw [if_neg (by omega), if_neg (by omega)] at hc
    cases hc
  unfold RdSt.byte RdSt.reqLine
  simp [h.at_, h.asks, hn, hc]
theorem goes_name (s : RdSt) (c : Int) (b : Bool) (h : Live s 7 b) (hc : isTok c = true) : Goes s c := by
  refine push_goes h (er := 21) ?_
  have hn : c ≠ 13 := fun e => by subst e; exact absurd hc (by decide)
  have hm : c ≠ 58 := fun e => by subst e; exact absurd hc (by decide)
  unfold RdSt.byte RdSt.fldLine
  simp [h.at_, hn, hm, hc]
theorem goes_value (s : RdSt) (c : Int) (b : Bool) (h : Live s 8 b) (hc : isVal c = true) : Goes s c := by
  refine push_goes h (er := 21) ?_
  have hn : c ≠ 13 := fun e => by subst e; exact absurd hc (by decide)
  unfold RdSt.byte RdSt.fldLine
  simp [h.at_, hn, hc]
theorem goes_vers (s : RdSt) (c : Int) (h : Live s 3 false) (hc : isVersion s.word c = true) : Goes s c := by
  refine push_goes h (er := 20) ?_
  have hn : ¬ (c = 32 ∧ s.word.length = 8) := by
    rintro ⟨e, e2⟩
    unfold isVersion at hc
    rw [if_neg (by omega), if_neg (by omega)] at hc
    cases hc
  unfold RdSt.byte RdSt.statLine
  simp [h.at_, h.asks, hn, hc]
theorem goes_code (s : RdSt) (c : Int) (h : Live s 4 false) (hl : s.word.length ≠ 3) (hc : (digB c && (decide (0 < s.word.length) || (decide (49 ≤ c) && decide (c ≤ 53)))) = true) : Goes s c := by
  refine push_goes h (er := 20) ?_
  unfold RdSt.byte RdSt.statLine
  simp only [h.at_, h.asks]
  simp [hl, hc]
theorem goes_reason (s : RdSt) (c : Int) (h : Live s 5 false) (hc : isVal c = true) : Goes s c := by
  refine push_goes h (er := 20) ?_
  have hn : c ≠ 13 := fun e => by subst e; exact absurd hc (by decide)
  unfold RdSt.byte RdSt.statLine
  simp [h.at_, h.asks, hn, hc]
def verL (m : Int) : List Int := [72, 84, 84, 80, 47, 49, 46, 48 + m]
theorem eats_ver {k : Int} {b : Bool} (hk : k ≠ 11) (hs : ∀ s c, Live s k b → isVersion s.word c = true → Goes s c) (s : RdSt) (h : Live s k b) (hw : s.word = []) (hl : s.len + 8 ≤ s.most) (m : Int) (hm : m = 0 ∨ m = 1) : Eats s (verL m) (s.more (verL m)) := by
  have one : ∀ (l : List Int) (c : Int), (l.length : Int) + 1 ≤ 8 → isVersion l c = true → Eats s l (s.more l) → Eats s (l ++ [c]) (s.more (l ++ [c])) := by
    intro l c hlen hv e
    have L := h.more l
    have g := hs (s.more l) c L (by show isVersion (s.word ++ l) c = true; rw [hw]; exact hv) (by show s.len + (l.length : Int) + 1 ≤ s.most; omega)
    refine e.app (.cons L.err (by rw [L.at_]; exact hk) ?_)
    rw [g, more_more]
    exact .nil _
  have e0 : Eats s [] (s.more []) := by rw [more_nil]; exact .nil s
  have e1 := one [] 72 (by decide) (by decide) e0
  have e2 := one [72] 84 (by decide) (by decide) e1
  have e3 := one [72, 84] 84 (by decide) (by decide) e2
  have e4 := one [72, 84, 84] 80 (by decide) (by decide) e3
  have e5 := one [72, 84, 84, 80] 47 (by decide) (by decide) e4
  have e6 := one [72, 84, 84, 80, 47] 49 (by decide) (by decide) e5
  have e7 := one [72, 84, 84, 80, 47, 49] 46 (by decide) (by decide) e6
  rcases hm with rfl | rfl
  · exact one [72, 84, 84, 80, 47, 49, 46] 48 (by decide) (by decide) e7
  · exact one [72, 84, 84, 80, 47, 49, 46] 49 (by decide) (by decide) e7
theorem minor_ver (m : Int) (hm : m = 0 ∨ m = 1) : minorOf (verL m) = m := by rcases hm with rfl | rfl <;> decide
theorem end_method {s : RdSt} (h : Live s 0 true) (hw : 0 < s.word.length) (hl : s.len + 1 ≤ s.most) : s.step 32 = {s with word := [], at_ := 1, qm := strOfNums s.word, len := s.len + 1} := by
  rw [step_end (s := s) (c := 32) (er := 20) (t := {({s with len := s.len + 1} : RdSt).taken 1 with qm := strOfNums s.word}) hl h.field ?_]
  · have he := h.err
    cases s
    simp_all [RdSt.taken]
  · unfold RdSt.byte RdSt.reqLine
    simp [h.at_, h.asks, hw]
theorem end_target {s : RdSt} (h : Live s 1 true) (hw : 0 < s.word.length) (hl : s.len + 1 ≤ s.most) : s.step 32 = {s with word := [], at_ := 2, qt := strOfNums s.word, len := s.len + 1} := by
  rw [step_end (s := s) (c := 32) (er := 20) (t := {({s with len := s.len + 1} : RdSt).taken 2 with qt := strOfNums s.word}) hl h.field ?_]
  · have he := h.err
    cases s
    simp_all [RdSt.taken]
  · unfold RdSt.byte RdSt.reqLine
    simp [h.at_, h.asks, hw]
theorem end_ver {s : RdSt} (h : Live s 2 true) (hw : s.word.length = 8) (hl : s.len + 1 ≤ s.most) : s.step 13 = {s with word := [], at_ := 6, qn := minorOf s.word, len := s.len + 1} := by
  rw [step_end (s := s) (c := 13) (er := 20) (t := {({s with len := s.len + 1} : RdSt).taken 6 with qn := minorOf s.word}) hl h.field ?_]
  · have he := h.err
    cases s
    simp_all [RdSt.taken]
  · unfold RdSt.byte RdSt.reqLine
    simp [h.at_, h.asks, hw]
theorem end_vers {s : RdSt} (h : Live s 3 false) (hw : s.word.length = 8) (hl : s.len + 1 ≤ s.most) : s.step 32 = {s with word := [], at_ := 4, pn := minorOf s.word, len := s.len + 1} := by
  rw [step_end (s := s) (c := 32) (er := 20) (t := {({s with len := s.len + 1} : RdSt).taken 4 with pn := minorOf s.word}) hl h.field ?_]
  · have he := h.err
    cases s
    simp_all [RdSt.taken]
  · unfold RdSt.byte RdSt.statLine
    simp [h.at_, h.asks, hw]
theorem end_code {s : RdSt} (h : Live s 4 false) (hw : s.word.length = 3) (hl : s.len + 1 ≤ s.most) : s.step 32 = {s with word := [], at_ := 5, ps := decOf s.word, len := s.len + 1} := by
  rw [step_end (s := s) (c := 32) (er := 20) (t := {({s with len := s.len + 1} : RdSt).taken 5 with ps := decOf s.word}) hl h.field ?_]
  · have he := h.err
    cases s
    simp_all [RdSt.taken]
  · unfold RdSt.byte RdSt.statLine
    simp only [h.at_, h.asks]
    simp [hw]
theorem end_reason {s : RdSt} (h : Live s 5 false) (hl : s.len + 1 ≤ s.most) : s.step 13 = {s with word := [], at_ := 6, pr := strOfNums s.word, len := s.len + 1} := by
  rw [step_end (s := s) (c := 13) (er := 20) (t := {({s with len := s.len + 1} : RdSt).taken 6 with pr := strOfNums s.word}) hl h.field ?_]
  · have he := h.err
    cases s
    simp_all [RdSt.taken]
  · unfold RdSt.byte RdSt.statLine
    simp [h.at_, h.asks]
theorem end_line {s : RdSt} {b : Bool} (h : Live s 6 b) (hl : s.len + 1 ≤ s.most) : s.step 10 = {s with at_ := 7, len := s.len + 1} := by
  rw [step_end (s := s) (c := 10) (er := 20) (t := {s with len := s.len + 1, at_ := 7}) hl h.field ?_]
  · have he := h.err
    cases s
    simp_all
  · unfold RdSt.byte
    simp [h.at_]
theorem end_name {s : RdSt} {b : Bool} (h : Live s 7 b) (hw : 0 < s.word.length) (hl : s.len + 1 ≤ s.most) : s.step 58 = {s with word := [], at_ := 8, name := strOfNums s.word, len := s.len + 1} := by
  rw [step_end (s := s) (c := 58) (er := 21) (t := {({s with len := s.len + 1} : RdSt).taken 8 with name := strOfNums s.word}) hl h.field ?_]
  · have he := h.err
    cases s
    simp_all [RdSt.taken]
  · unfold RdSt.byte RdSt.fldLine
    simp [h.at_, hw]
theorem end_value {s : RdSt} {b : Bool} (h : Live s 8 b) (hl : s.len + 1 ≤ s.most) : s.step 13 = {s with at_ := 9, len := s.len + 1} := by
  rw [step_end (s := s) (c := 13) (er := 21) (t := {s with len := s.len + 1, at_ := 9}) hl h.field ?_]
  · have he := h.err
    cases s
    simp_all
  · unfold RdSt.byte RdSt.fldLine
    simp [h.at_]
theorem end_field {s : RdSt} {b : Bool} (h : Live s 9 b) (hf : s.field.length + 1 ≤ 64) (hl : s.len + 1 ≤ s.most) : s.step 10 = {s with word := [], at_ := 7, field := s.field ++ [⟨s.name, trimOf s.word⟩], len := s.len + 1} := by
  rw [step_end (s := s) (c := 10) (er := 21) (t := {({s with len := s.len + 1} : RdSt).taken 7 with field := s.field ++ [⟨s.name, trimOf s.word⟩]}) hl (by simpa using hf) ?_]
  · have he := h.err
    cases s
    simp_all [RdSt.taken]
  · unfold RdSt.byte RdSt.fldLine
    simp [h.at_]
theorem end_empty {s : RdSt} {b : Bool} (h : Live s 7 b) (hw : s.word = []) (hl : s.len + 1 ≤ s.most) : s.step 13 = {s with at_ := 10, len := s.len + 1} := by
  rw [step_end (s := s) (c := 13) (er := 21) (t := {s with len := s.len + 1, at_ := 10}) hl h.field ?_]
  · have he := h.err
    cases s
    simp_all
  · unfold RdSt.byte RdSt.fldLine
    simp [h.at_, hw]
theorem end_head {s : RdSt} {b : Bool} (h : Live s 10 b) (hl : s.len + 1 ≤ s.most) : s.step 10 = {s with at_ := 11, len := s.len + 1} := by
  rw [step_end (s := s) (c := 10) (er := 21) (t := {s with len := s.len + 1, at_ := 11}) hl h.field ?_]
  · have he := h.err
    cases s
    simp_all
  · unfold RdSt.byte RdSt.fldLine
    simp [h.at_]
end Go.Proofs.YtdmbgbennlnpcaaDoor.Hd
namespace Go.Proofs.YtdmbgbennlnpcaaDoor.Hd
open Go.RowKit Go.Proofs.YtdmbgbennlnpcaaDoorW.PrintWords Go.Proofs.YtdmbgbennlnpcaaDoorW.PrintLast Go.Proofs.YtdmbgbennlnpcaaDoorW.PrintMore
set_option linter.unusedVariables false
set_option linter.unusedSimpArgs false
theorem trm_blank (l : List UInt8) (h : trm l = l) : trm (32 :: l) = l := by
  have e : trR blk (32 :: l) = if blk 32 = true ∧ trR blk l = [] then [] else 32 :: trR blk l := trR_cons blk 32 l
  have hb : blk 32 = true := by decide
  unfold trm at h ⊢
  rw [e]
  by_cases hr : trR blk l = []
  · rw [if_pos ⟨hb, hr⟩]
    rw [hr] at h
    exact h
  · rw [if_neg (fun q => hr q.2)]
    have : trL blk (32 :: trR blk l) = trL blk (trR blk l) := by simp [trL, hb]
    rw [this]
    exact h
theorem trimOf_blank (v : ByteArray) (h : trm v.data.toList = v.data.toList) : trimOf (32 :: bytesOf v) = v := by
  unfold trimOf
  have e : (strOfNums (32 :: bytesOf v)).data.toList = 32 :: v.data.toList := by
    have := strOf_bytes v
    unfold strOfNums at this ⊢
    simp only [List.map_cons, ]
    have h2 := congrArg (fun z => z.data.toList) this
    simp only at h2
    rw [h2]
    rfl
  rw [e, trm_blank _ h]
def lineL (f : S50) : List Int := bytesOf f.f0 ++ [58, 32] ++ bytesOf f.f1 ++ [13, 10]
structure FineF (f : S50) : Prop where
  name : ∀ c ∈ bytesOf f.f0, isTok c = true
  ne : bytesOf f.f0 ≠ []
  val : ∀ c ∈ bytesOf f.f1, isVal c = true
  trim : trm f.f1.data.toList = f.f1.data.toList
theorem Eats.one {s t : RdSt} {k : Int} {b : Bool} (h : Live s k b) (hk : k ≠ 11) {c : Int} (e : s.step c = t) : Eats s [c] t := .cons h.err (by rw [h.at_]; exact hk) (by rw [e]; exact .nil t)
theorem eats_field {s : RdSt} {b : Bool} (h : Live s 7 b) (hw : s.word = []) (hf : s.field.length + 1 ≤ 64) (f : S50) (ok : FineF f) (hl : s.len + (lineL f).length ≤ s.most) :
    Eats s (lineL f) {s with word := [], at_ := 7, name := f.f0, field := s.field ++ [f], len := s.len + (lineL f).length} := by
  have hlen : (lineL f).length = (bytesOf f.f0).length + 2 + (bytesOf f.f1).length + 2 := by simp [lineL]; omega
  have L1 := h.more (bytesOf f.f0)
  have e1 := eats_run (by decide) _ (fun s c h hc => goes_name s c b h hc) (bytesOf f.f0) s h (by omega) ok.name
  have p1 : 0 < (s.more (bytesOf f.f0)).word.length := by
    have := List.length_pos_iff.2 ok.ne
    simp only [RdSt.more, List.length_append]
    omega
  have s1 := end_name L1 p1 (by show s.len + ((bytesOf f.f0).length : Nat) + 1 ≤ s.most; omega)
  have e2 := Eats.one L1 (by decide) s1
  have L2 : Live {s.more (bytesOf f.f0) with word := [], at_ := 8, name := strOfNums (s.more (bytesOf f.f0)).word, len := (s.more (bytesOf f.f0)).len + 1} 8 b := ⟨h.err, rfl, h.asks, h.field⟩
  have e3 := eats_run (by decide) _ (fun s c h hc => goes_value s c b h hc) (32 :: bytesOf f.f1) _ L2 (by simp only [RdSt.more, List.length_cons]; omega) (by
    intro c hc
    rcases List.mem_cons.1 hc with rfl | hc
    · decide
    · exact ok.val c hc)
  have L3 := L2.more (32 :: bytesOf f.f1)
  have s3 := end_value L3 (by simp only [RdSt.more, List.length_cons]; omega)
  have e4 := Eats.one L3 (by decide) s3
  have L4 : Live {(RdSt.more {s.more (bytesOf f.f0) with word := [], at_ := 8, name := strOfNums (s.more (bytesOf f.f0)).word, len := (s.more (bytesOf f.f0)).len + 1} (32 :: bytesOf f.f1)) with at_ := 9, len := (RdSt.more {s.more (bytesOf f.f0) with word := [], at_ := 8, name := strOfNums (s.more (bytesOf f.f0)).word, len := (s.more (bytesOf f.f0)).len + 1} (32 :: bytesOf f.f1)).len + 1} 9 b := ⟨h.err, rfl, h.asks, h.field⟩
  have s4 := end_field L4 hf (by simp only [RdSt.more, List.length_cons]; omega)
  have e5 := Eats.one L4 (by decide) s4
  have E := (((e1.app e2).app e3).app e4).app e5
  have eq : bytesOf f.f0 ++ [58] ++ (32 :: bytesOf f.f1) ++ [13] ++ [10] = lineL f := by simp [lineL]
  rw [eq] at E
  refine cast ?_ E
  congr 1
  simp only [RdSt.more, hw, List.nil_append, strOf_bytes, trimOf_blank _ ok.trim, List.length_cons]
  congr 1
  rw [hlen]
  push_cast
  omega
theorem eats_fields {b : Bool} : ∀ (fs : List S50) (s : RdSt), Live s 7 b → s.word = [] → s.field.length + fs.length ≤ 64 → (∀ f ∈ fs, FineF f) → s.len + (fs.flatMap lineL).length ≤ s.most →
    ∃ nm, Eats s (fs.flatMap lineL) {s with word := [], at_ := 7, name := nm, field := s.field ++ fs, len := s.len + (fs.flatMap lineL).length}
  | [], s, h, hw, hf, ok, hl => by
    refine ⟨s.name, ?_⟩
    have : ({s with word := [], at_ := 7, name := s.name, field := s.field ++ [], len := s.len + ((([] : List S50).flatMap lineL).length : Nat)} : RdSt) = s := by
      have := h.at_
      cases s
      simp_all
    rw [this]
    exact .nil s
  | f :: fs, s, h, hw, hf, ok, hl => by
    rw [List.flatMap_cons, List.length_append] at hl
    rw [List.length_cons] at hf
    have e1 := eats_field h hw (by omega) f (ok f List.mem_cons_self) (by omega)
    obtain ⟨nm, e2⟩ := eats_fields fs {s with word := [], at_ := 7, name := f.f0, field := s.field ++ [f], len := s.len + (lineL f).length} ⟨h.err, rfl, h.asks, by simp; omega⟩ rfl (by simp; omega) (fun x hx => ok x (List.mem_cons_of_mem _ hx)) (by show s.len + ((lineL f).length : Nat) + ((fs.flatMap lineL).length : Nat) ≤ s.most; omega)
    refine ⟨nm, ?_⟩
    have E := e1.app e2
    rw [← List.flatMap_cons] at E
    refine cast ?_ E
    congr 1
    simp only [List.append_assoc, List.singleton_append, List.flatMap_cons, List.length_append]
    congr 1
    push_cast
    omega
def reqL (qm qt : ByteArray) (m : Int) : List Int := bytesOf qm ++ [32] ++ bytesOf qt ++ [32] ++ verL m
def headL (first : List Int) (fs : List S50) : List Int := first ++ [13, 10] ++ fs.flatMap lineL ++ [13]
theorem eats_rest {s : RdSt} {b : Bool} (h : Live s 6 b) (hw : s.word = []) (hf : s.field = []) (fs : List S50) (hn : fs.length ≤ 64) (ok : ∀ f ∈ fs, FineF f) (hl : s.len + 1 + (fs.flatMap lineL).length + 1 ≤ s.most) :
    ∃ nm, Eats s ([10] ++ fs.flatMap lineL ++ [13]) {s with word := [], at_ := 10, name := nm, field := fs, len := s.len + 1 + (fs.flatMap lineL).length + 1} := by
  have e1 := Eats.one h (by decide) (end_line h (by omega))
  obtain ⟨nm, e2⟩ := eats_fields (b := b) fs {s with at_ := 7, len := s.len + 1} ⟨h.err, rfl, h.asks, by rw [hf]; simp⟩ hw (by rw [hf]; simpa using hn) ok (by show s.len + 1 + ((fs.flatMap lineL).length : Nat) ≤ s.most; omega)
  have L2 : Live {({s with at_ := 7, len := s.len + 1} : RdSt) with word := [], at_ := 7, name := nm, field := s.field ++ fs, len := s.len + 1 + (fs.flatMap lineL).length} 7 b := ⟨h.err, rfl, h.asks, by rw [hf]; simpa using hn⟩
  have e3 := Eats.one L2 (by decide) (end_empty L2 rfl (by show s.len + 1 + ((fs.flatMap lineL).length : Nat) + 1 ≤ s.most; omega))
  refine ⟨nm, ?_⟩
  have E := (e1.app e2).app e3
  refine cast ?_ E
  congr 1
  simp only [hf, List.nil_append]
theorem eats_request (most : Int) (qm qt : ByteArray) (m : Int) (fs : List S50) (hm0 : bytesOf qm ≠ []) (hm : ∀ c ∈ bytesOf qm, isTok c = true) (ht0 : bytesOf qt ≠ []) (ht : ∀ c ∈ bytesOf qt, isVis c = true) (hv : m = 0 ∨ m = 1) (hn : fs.length ≤ 64) (ok : ∀ f ∈ fs, FineF f)
    (hl : ((headL (reqL qm qt m) fs).length : Int) ≤ most) : ∃ t, Eats (RdSt.new most true 0) (headL (reqL qm qt m) fs) t ∧ Live {t with field := []} 10 true ∧ t.most = most ∧ t.len = (headL (reqL qm qt m) fs).length ∧ t.qm = qm ∧ t.qt = qt ∧ t.qn = m ∧ t.field = fs := by
  have hlen : (headL (reqL qm qt m) fs).length = (bytesOf qm).length + 1 + (bytesOf qt).length + 1 + 8 + 2 + (fs.flatMap lineL).length + 1 := by simp [headL, reqL, verL]; omega
  rw [hlen] at hl ⊢
  have L0 : Live (RdSt.new most true 0) 0 true := ⟨rfl, rfl, rfl, Nat.zero_le _⟩
  have p1 := List.length_pos_iff.2 hm0
  have p2 := List.length_pos_iff.2 ht0
  have e1 := eats_run (by decide) _ goes_method (bytesOf qm) _ L0 (by simp only [RdSt.new]; omega) hm
  have L1 := L0.more (bytesOf qm)
  have s1 := end_method L1 (by simp only [RdSt.more, RdSt.new, List.nil_append]; omega) (by simp only [RdSt.more, RdSt.new]; omega)
  have e2 := Eats.one L1 (by decide) s1
  generalize hg1 : ({(RdSt.new most true 0).more (bytesOf qm) with word := [], at_ := 1, qm := strOfNums ((RdSt.new most true 0).more (bytesOf qm)).word, len := ((RdSt.new most true 0).more (bytesOf qm)).len + 1} : RdSt) = a1 at e2
  have L2 : Live a1 1 true := by rw [← hg1]; exact ⟨rfl, rfl, rfl, Nat.zero_le _⟩
  have q1 : a1.word = [] ∧ a1.len = (bytesOf qm).length + 1 ∧ a1.most = most ∧ a1.qm = qm ∧ a1.field = [] := by rw [← hg1]; simp [RdSt.more, RdSt.new, strOf_bytes]
  obtain ⟨w1, l1, m1, k1, f1⟩ := q1
  have e3 := eats_run (by decide) _ goes_target (bytesOf qt) a1 L2 (by rw [l1, m1]; omega) ht
  have L3 := L2.more (bytesOf qt)
  have s3 := end_target L3 (by simp only [RdSt.more, w1, List.nil_append]; omega) (by simp only [RdSt.more, l1, m1]; omega)
  have e4 := Eats.one L3 (by decide) s3
  generalize hg2 : ({a1.more (bytesOf qt) with word := [], at_ := 2, qt := strOfNums (a1.more (bytesOf qt)).word, len := (a1.more (bytesOf qt)).len + 1} : RdSt) = a2 at e4
  have L4 : Live a2 2 true := by rw [← hg2]; exact ⟨L2.err, rfl, L2.asks, L2.field⟩
  have q2 : a2.word = [] ∧ a2.len = (bytesOf qm).length + 1 + (bytesOf qt).length + 1 ∧ a2.most = most ∧ a2.qm = qm ∧ a2.qt = qt ∧ a2.field = [] := by rw [← hg2]; simp [RdSt.more, strOf_bytes, w1, l1, m1, k1, f1]
  obtain ⟨w2, l2, m2, k2, t2, f2⟩ := q2
  have e5 := eats_ver (by decide) goes_ver a2 L4 w2 (by rw [l2, m2]; omega) m hv
  have L5 := L4.more (verL m)
  have s5 := end_ver L5 (by simp only [RdSt.more, w2, verL, List.nil_append, List.length_cons, List.length_nil]) (by simp only [RdSt.more, l2, m2, verL, List.length_cons, List.length_nil]; omega)
  have e6 := Eats.one L5 (by decide) s5
  generalize hg3 : ({a2.more (verL m) with word := [], at_ := 6, qn := minorOf (a2.more (verL m)).word, len := (a2.more (verL m)).len + 1} : RdSt) = a3 at e6
  have L6 : Live a3 6 true := by rw [← hg3]; exact ⟨L4.err, rfl, L4.asks, L4.field⟩
  have q3 : a3.word = [] ∧ a3.len = (bytesOf qm).length + 1 + (bytesOf qt).length + 1 + 8 + 1 ∧ a3.most = most ∧ a3.qm = qm ∧ a3.qt = qt ∧ a3.qn = m ∧ a3.field = [] := by
    rw [← hg3]
    refine ⟨rfl, ?_, m2, k2, t2, ?_, f2⟩
    · simp only [RdSt.more, l2, verL, List.length_cons, List.length_nil]; omega
    · simp only [RdSt.more, w2, List.nil_append]; exact minor_ver m hv
  obtain ⟨w3, l3, m3, k3, t3, n3, f3⟩ := q3
  obtain ⟨nm, e7⟩ := eats_rest L6 w3 f3 fs hn ok (by rw [l3, m3]; omega)
  have E := (((((e1.app e2).app e3).app e4).app e5).app e6).app e7
  refine ⟨{a3 with word := [], at_ := 10, name := nm, field := fs, len := a3.len + 1 + (fs.flatMap lineL).length + 1}, cast ?_ E, ⟨L6.err, rfl, L6.asks, by simp⟩, m3, ?_, k3, t3, n3, rfl⟩
  · congr 1
    simp [headL, reqL]
  · show a3.len + 1 + ((fs.flatMap lineL).length : Nat) + 1 = _
    rw [l3]
    push_cast
    omega
def statL (m : Int) (cw : List Int) (pr : ByteArray) : List Int := verL m ++ [32] ++ cw ++ [32] ++ bytesOf pr
theorem eats_code (s : RdSt) (h : Live s 4 false) (hw : s.word = []) (a b c : Int) (hl : s.len + 3 ≤ s.most) (ha : 49 ≤ a ∧ a ≤ 53) (hb : digB b = true) (hc : digB c = true) : Eats s [a, b, c] (s.more [a, b, c]) := by
  have one : ∀ (l : List Int) (c : Int), (l.length : Int) + 1 ≤ 3 → (digB c && (decide (0 < l.length) || (decide (49 ≤ c) && decide (c ≤ 53)))) = true → Eats s l (s.more l) → Eats s (l ++ [c]) (s.more (l ++ [c])) := by
    intro l c hlen hv e
    have L := h.more l
    have g := goes_code (s.more l) c L (by simp only [RdSt.more, hw, List.nil_append]; omega) (by simp only [RdSt.more, hw, List.nil_append]; exact hv) (by show s.len + (l.length : Int) + 1 ≤ s.most; omega)
    refine e.app (.cons L.err (by rw [L.at_]; decide) ?_)
    rw [g, more_more]
    exact .nil _
  have e0 : Eats s [] (s.more []) := by rw [more_nil]; exact .nil s
  have da : digB a = true := by unfold digB; rw [if_pos (by omega)]; exact decide_eq_true (by omega)
  have e1 := one [] a (by decide) (by rw [da, decide_eq_true ha.1, decide_eq_true ha.2]; rfl) e0
  have e2 := one [a] b (by simp) (by rw [hb]; rfl) e1
  exact one [a, b] c (by simp) (by rw [hc]; rfl) e2
theorem eats_response (most : Int) (m a b c : Int) (pr : ByteArray) (fs : List S50) (ha : 49 ≤ a ∧ a ≤ 53) (hb : digB b = true) (hc : digB c = true) (hr : ∀ c ∈ bytesOf pr, isVal c = true) (hv : m = 0 ∨ m = 1) (hn : fs.length ≤ 64) (ok : ∀ f ∈ fs, FineF f)
    (hl : ((headL (statL m [a, b, c] pr) fs).length : Int) ≤ most) : ∃ t, Eats (RdSt.new most false 3) (headL (statL m [a, b, c] pr) fs) t ∧ Live {t with field := []} 10 false ∧ t.most = most ∧ t.len = (headL (statL m [a, b, c] pr) fs).length ∧ t.ps = decOf [a, b, c] ∧ t.pr = pr ∧ t.pn = m ∧ t.field = fs := by
  have hlen : (headL (statL m [a, b, c] pr) fs).length = 8 + 1 + 3 + 1 + (bytesOf pr).length + 2 + (fs.flatMap lineL).length + 1 := by simp [headL, statL, verL]; omega
  rw [hlen] at hl ⊢
  have L0 : Live (RdSt.new most false 3) 3 false := ⟨rfl, rfl, rfl, Nat.zero_le _⟩
  have e1 := eats_ver (by decide) goes_vers _ L0 rfl (by simp only [RdSt.new]; omega) m hv
  have L1 := L0.more (verL m)
  have s1 := end_vers L1 (by simp only [RdSt.more, RdSt.new, verL, List.nil_append, List.length_cons, List.length_nil]) (by simp only [RdSt.more, RdSt.new, verL, List.length_cons, List.length_nil]; omega)
  have e2 := Eats.one L1 (by decide) s1
  generalize hg1 : ({(RdSt.new most false 3).more (verL m) with word := [], at_ := 4, pn := minorOf ((RdSt.new most false 3).more (verL m)).word, len := ((RdSt.new most false 3).more (verL m)).len + 1} : RdSt) = a1 at e2
  have L2 : Live a1 4 false := by rw [← hg1]; exact ⟨rfl, rfl, rfl, Nat.zero_le _⟩
  have q1 : a1.word = [] ∧ a1.len = 8 + 1 ∧ a1.most = most ∧ a1.pn = m ∧ a1.field = [] := by rw [← hg1]; exact ⟨rfl, by simp [RdSt.more, RdSt.new, verL], rfl, by simp only [RdSt.more, RdSt.new, List.nil_append]; exact minor_ver m hv, rfl⟩
  obtain ⟨w1, l1, m1, k1, f1⟩ := q1
  have e3 := eats_code a1 L2 w1 a b c (by rw [l1, m1]; omega) ha hb hc
  have L3 := L2.more [a, b, c]
  have s3 := end_code L3 (by simp only [RdSt.more, w1, List.nil_append, List.length_cons, List.length_nil]) (by simp only [RdSt.more, l1, m1, List.length_cons, List.length_nil]; omega)
  have e4 := Eats.one L3 (by decide) s3
  generalize hg2 : ({a1.more [a, b, c] with word := [], at_ := 5, ps := decOf (a1.more [a, b, c]).word, len := (a1.more [a, b, c]).len + 1} : RdSt) = a2 at e4
  have L4 : Live a2 5 false := by rw [← hg2]; exact ⟨L2.err, rfl, L2.asks, L2.field⟩
  have q2 : a2.word = [] ∧ a2.len = 8 + 1 + 3 + 1 ∧ a2.most = most ∧ a2.pn = m ∧ a2.ps = decOf [a, b, c] ∧ a2.field = [] := by rw [← hg2]; exact ⟨rfl, by simp [RdSt.more, l1], m1, k1, by simp [RdSt.more, w1], f1⟩
  obtain ⟨w2, l2, m2, k2, t2, f2⟩ := q2
  have e5 := eats_run (by decide) _ goes_reason (bytesOf pr) a2 L4 (by rw [l2, m2]; omega) hr
  have L5 := L4.more (bytesOf pr)
  have s5 := end_reason L5 (by simp only [RdSt.more, l2, m2]; omega)
  have e6 := Eats.one L5 (by decide) s5
  generalize hg3 : ({a2.more (bytesOf pr) with word := [], at_ := 6, pr := strOfNums (a2.more (bytesOf pr)).word, len := (a2.more (bytesOf pr)).len + 1} : RdSt) = a3 at e6
  have L6 : Live a3 6 false := by rw [← hg3]; exact ⟨L4.err, rfl, L4.asks, L4.field⟩
  have q3 : a3.word = [] ∧ a3.len = 8 + 1 + 3 + 1 + (bytesOf pr).length + 1 ∧ a3.most = most ∧ a3.pn = m ∧ a3.ps = decOf [a, b, c] ∧ a3.pr = pr ∧ a3.field = [] := by
    rw [← hg3]
    refine ⟨rfl, ?_, m2, k2, t2, ?_, f2⟩
    · simp only [RdSt.more, l2]
    · simp only [RdSt.more, w2, List.nil_append, strOf_bytes]
  obtain ⟨w3, l3, m3, k3, t3, n3, f3⟩ := q3
  obtain ⟨nm, e7⟩ := eats_rest L6 w3 f3 fs hn ok (by rw [l3, m3]; omega)
  have E := (((((e1.app e2).app e3).app e4).app e5).app e6).app e7
  refine ⟨{a3 with word := [], at_ := 10, name := nm, field := fs, len := a3.len + 1 + (fs.flatMap lineL).length + 1}, cast ?_ E, ⟨L6.err, rfl, L6.asks, by simp⟩, m3, ?_, t3, n3, k3, rfl⟩
  · congr 1
    simp [headL, statL]
  · show a3.len + 1 + ((fs.flatMap lineL).length : Nat) + 1 = _
    rw [l3]
    push_cast
    omega
theorem feed_whole {s t : RdSt} {l : List Int} {b : Bool} (e : Eats s l t) (h : Live {t with field := []} 10 b) (hf : t.field.length ≤ 64) (hl : t.len + 1 ≤ t.most) (m : List Int) : s.feed (l ++ 10 :: m) = ({t with at_ := 11, len := t.len + 1}, l.length + 1) := by
  have L : Live t 10 b := ⟨h.err, h.at_, h.asks, hf⟩
  have E := e.app (Eats.one L (by decide) (end_head L hl))
  have := E.stop (.inr rfl) m
  simpa using this
end Go.Proofs.YtdmbgbennlnpcaaDoor.Hd
namespace Go.Proofs.YtdmbgbennlnpcaaDoor.Hd
open Go.RowKit Go.Proofs.YtdmbgbennlnpcaaDoorW.PrintWords Go.Proofs.YtdmbgbennlnpcaaDoorW.PrintLast Go.Proofs.YtdmbgbennlnpcaaDoorW.PrintMore
set_option linter.unusedVariables false
set_option linter.unusedSimpArgs false
theorem step_len (s : RdSt) (c : Int) : (s.step c).len = s.len + 1 ∧ (s.step c).most = s.most ∧ (s.step c).asks = s.asks := by
  have h1 : ∀ t : RdSt, (t.reqLine c).1.len = t.len ∧ (t.reqLine c).1.most = t.most ∧ (t.reqLine c).1.asks = t.asks := by
    intro t
    unfold RdSt.reqLine
    (repeat' split) <;> exact ⟨rfl, rfl, rfl⟩
  have h2 : ∀ t : RdSt, (t.statLine c).1.len = t.len ∧ (t.statLine c).1.most = t.most ∧ (t.statLine c).1.asks = t.asks := by
    intro t
    unfold RdSt.statLine
    (repeat' split) <;> exact ⟨rfl, rfl, rfl⟩
  have h3 : ∀ t : RdSt, (t.fldLine c).1.len = t.len ∧ (t.fldLine c).1.most = t.most ∧ (t.fldLine c).1.asks = t.asks := by
    intro t
    unfold RdSt.fldLine
    (repeat' split) <;> exact ⟨rfl, rfl, rfl⟩
  have h4 : ∀ t : RdSt, (t.byte c).1.len = t.len + 1 ∧ (t.byte c).1.most = t.most ∧ (t.byte c).1.asks = t.asks := by
    intro t
    unfold RdSt.byte
    split
    · exact ⟨rfl, rfl, rfl⟩
    · split
      · exact h3 _
      · split
        · exact h1 _
        · exact h2 _
  exact h4 s
theorem Eats.len {s t : RdSt} {l : List Int} (h : Eats s l t) : t.len = s.len + l.length ∧ t.most = s.most ∧ t.asks = s.asks := by
  induction h with
  | nil => simp
  | @cons s t c l h1 h2 h3 ih =>
    obtain ⟨a, b, d⟩ := step_len s c
    refine ⟨?_, ih.2.1.trans b, ih.2.2.trans d⟩
    rw [ih.1, a, List.length_cons]
    push_cast
    omega
end Go.Proofs.YtdmbgbennlnpcaaDoor.Hd
namespace Go.Proofs.YtdmbgbennlnpcaaDoor.Hd
open Go.RowKit Go.Proofs.YtdmbgbennlnpcaaDoorW.PrintWords Go.Proofs.YtdmbgbennlnpcaaDoorW.PrintLast Go.Proofs.YtdmbgbennlnpcaaDoorW.PrintMore
set_option linter.unusedVariables false
set_option linter.unusedSimpArgs false
def head_ParseRequest.f (l0 : List Int) (a1 : Int) : Option (ByteArray × ByteArray × Int × (List S50) × Int × Option Int) :=
  if l0.length ≤ 9000000000000000000 ∧ (∀ x, x ∈ l0 → 0 ≤ x ∧ x ≤ 255) then
    some (if a1 < 1 ∨ a1 > 65536 then ((⟨#[]⟩ : ByteArray), (⟨#[]⟩ : ByteArray), (0 : Int), ([] : List S50), (0 : Int), some 1) else (RdSt.new a1 true 0).res l0 (fun x => ((⟨#[]⟩ : ByteArray), (⟨#[]⟩ : ByteArray), (0 : Int), ([] : List S50), (0 : Int), some x)) (fun st n => (st.qm, st.qt, st.qn, st.field, n, none)))
  else none
theorem head_ParseRequest.calls (A0 : Option Addr) (c0 : Nat) (l0 : List Int) (a1 : Int) (r1 : ByteArray) (r2 : ByteArray) (r3 : Int) (r4 : List S50) (r5 : Int) (r6 : Option Int) (w : World) (hr0 : Kd.C (Kd.int .u8) w A0 l0.length l0) (hc0 : l0.length ≤ c0) (h : head_ParseRequest.f l0 a1 = some (r1, r2, r3, r4, r5, r6)) :
    Calls Tryd.prog 36 #[.slice A0 l0.length c0, .int .i64 a1] w fun e w' => ∃ v3_ : Value, e = .returned (.tuple #[.agg #[.string r1, .string r2, .int .i64 r3, v3_], .int .i64 r5, errW r6]) ∧ Kd.R k50 50 w' w.heap.size (fun _ => True) v3_ r4 ∧ Below w.heap.size w w' := by
  unfold head_ParseRequest.f at h
  split at h
  case isFalse => cases h
  rename_i hc
  obtain ⟨hn, hx⟩ := hc
  by_cases hm : a1 < 1 ∨ a1 > 65536
  · rw [if_pos hm] at h
    obtain ⟨rfl, rfl, rfl, rfl, rfl, rfl⟩ : _ ∧ _ ∧ _ ∧ _ ∧ _ ∧ _ := by simpa only [Option.some.injEq, Prod.mk.injEq] using h
    exact (parseRequest_bad w A0 l0 c0 a1 hm).mono (fun e w' ⟨he, hb⟩ => ⟨_, he, Kd.R_nil _ _ _ _ _, hb⟩)
  · rw [if_neg hm] at h
    rcases res_cases (RdSt.new a1 true 0) l0 (fun x => ((⟨#[]⟩ : ByteArray), (⟨#[]⟩ : ByteArray), (0 : Int), ([] : List S50), (0 : Int), some x)) (fun st n => (st.qm, st.qt, st.qn, st.field, n, none)) (new_ok a1 true 0 hm) with ⟨x, ha, hr⟩ | ⟨n, ha, hd, hf, hr⟩
    · rw [hr] at h
      obtain ⟨rfl, rfl, rfl, rfl, rfl, rfl⟩ : _ ∧ _ ∧ _ ∧ _ ∧ _ ∧ _ := by simpa only [Option.some.injEq, Prod.mk.injEq] using h
      exact (parseRequest_err w A0 l0 c0 a1 hr0 hn hx hm x ha).mono (fun e w' ⟨he, hb⟩ => ⟨_, he, Kd.R_nil _ _ _ _ _, hb⟩)
    · rw [hr] at h
      obtain ⟨rfl, rfl, rfl, rfl, rfl, rfl⟩ : _ ∧ _ ∧ _ ∧ _ ∧ _ ∧ _ := by simpa only [Option.some.injEq, Prod.mk.injEq] using h
      exact (parseRequest_ok w A0 l0 c0 a1 hr0 hn hx hm n ha hd hf).mono (fun e w' ⟨v, he, hR, hb⟩ => ⟨v, he, hR, hb⟩)
def head_ParseResponse.f (l0 : List Int) (a1 : Int) : Option (Int × ByteArray × Int × (List S50) × Int × Option Int) :=
  if l0.length ≤ 9000000000000000000 ∧ (∀ x, x ∈ l0 → 0 ≤ x ∧ x ≤ 255) then
    some (if a1 < 1 ∨ a1 > 65536 then ((0 : Int), (⟨#[]⟩ : ByteArray), (0 : Int), ([] : List S50), (0 : Int), some 1) else (RdSt.new a1 false 3).res l0 (fun x => ((0 : Int), (⟨#[]⟩ : ByteArray), (0 : Int), ([] : List S50), (0 : Int), some x)) (fun st n => (st.ps, st.pr, st.pn, st.field, n, none)))
  else none
theorem head_ParseResponse.calls (A0 : Option Addr) (c0 : Nat) (l0 : List Int) (a1 : Int) (r1 : Int) (r2 : ByteArray) (r3 : Int) (r4 : List S50) (r5 : Int) (r6 : Option Int) (w : World) (hr0 : Kd.C (Kd.int .u8) w A0 l0.length l0) (hc0 : l0.length ≤ c0) (h : head_ParseResponse.f l0 a1 = some (r1, r2, r3, r4, r5, r6)) :
    Calls Tryd.prog 37 #[.slice A0 l0.length c0, .int .i64 a1] w fun e w' => ∃ v3_ : Value, e = .returned (.tuple #[.agg #[.int .i64 r1, .string r2, .int .i64 r3, v3_], .int .i64 r5, errW r6]) ∧ Kd.R k50 50 w' w.heap.size (fun _ => True) v3_ r4 ∧ Below w.heap.size w w' := by
  unfold head_ParseResponse.f at h
  split at h
  case isFalse => cases h
  rename_i hc
  obtain ⟨hn, hx⟩ := hc
  by_cases hm : a1 < 1 ∨ a1 > 65536
  · rw [if_pos hm] at h
    obtain ⟨rfl, rfl, rfl, rfl, rfl, rfl⟩ : _ ∧ _ ∧ _ ∧ _ ∧ _ ∧ _ := by simpa only [Option.some.injEq, Prod.mk.injEq] using h
    exact (parseResponse_bad w A0 l0 c0 a1 hm).mono (fun e w' ⟨he, hb⟩ => ⟨_, he, Kd.R_nil _ _ _ _ _, hb⟩)
  · rw [if_neg hm] at h
    rcases res_cases (RdSt.new a1 false 3) l0 (fun x => ((0 : Int), (⟨#[]⟩ : ByteArray), (0 : Int), ([] : List S50), (0 : Int), some x)) (fun st n => (st.ps, st.pr, st.pn, st.field, n, none)) (new_ok a1 false 3 hm) with ⟨x, ha, hr⟩ | ⟨n, ha, hd, hf, hr⟩
    · rw [hr] at h
      obtain ⟨rfl, rfl, rfl, rfl, rfl, rfl⟩ : _ ∧ _ ∧ _ ∧ _ ∧ _ ∧ _ := by simpa only [Option.some.injEq, Prod.mk.injEq] using h
      exact (parseResponse_err w A0 l0 c0 a1 hr0 hn hx hm x ha).mono (fun e w' ⟨he, hb⟩ => ⟨_, he, Kd.R_nil _ _ _ _ _, hb⟩)
    · rw [hr] at h
      obtain ⟨rfl, rfl, rfl, rfl, rfl, rfl⟩ : _ ∧ _ ∧ _ ∧ _ ∧ _ ∧ _ := by simpa only [Option.some.injEq, Prod.mk.injEq] using h
      exact (parseResponse_ok w A0 l0 c0 a1 hr0 hn hx hm n ha hd hf).mono (fun e w' ⟨v, he, hR, hb⟩ => ⟨v, he, hR, hb⟩)
end Go.Proofs.YtdmbgbennlnpcaaDoor.Hd
namespace Go.Proofs.YtdmbgbennlnpcaaDoor.Hd
open Go.RowKit Go.Proofs.YtdmbgbennlnpcaaDoorW.PrintWords Go.Proofs.YtdmbgbennlnpcaaDoorW.PrintLast Go.Proofs.YtdmbgbennlnpcaaDoorW.PrintMore
set_option linter.unusedVariables false
set_option linter.unusedSimpArgs false
def Rng (l : List Int) : Prop := ∀ x, x ∈ l → 0 ≤ x ∧ x ≤ 255
theorem rng_bytes (s : ByteArray) : Rng (bytesOf s) := by
  intro x hx
  obtain ⟨b, _, rfl⟩ := List.mem_map.1 hx
  exact byte_range b
theorem rng_app {l m : List Int} (h : Rng l) (k : Rng m) : Rng (l ++ m) := fun x hx => (List.mem_append.1 hx).elim (h x) (k x)
theorem rng_cons {a : Int} {l : List Int} (h : 0 ≤ a ∧ a ≤ 255) (k : Rng l) : Rng (a :: l) := fun x hx => (List.mem_cons.1 hx).elim (fun e => e ▸ h) (k x)
theorem rng_nil : Rng [] := fun x hx => by cases hx
theorem rng_ver (m : Int) (h : m = 0 ∨ m = 1) : Rng (verL m) := by rcases h with rfl | rfl <;> (unfold verL Rng; decide)
theorem rng_line (f : S50) : Rng (lineL f) := rng_app (rng_app (rng_app (rng_bytes _) (by unfold Rng; decide)) (rng_bytes _)) (by unfold Rng; decide)
theorem rng_lines (l : List S50) : Rng (l.flatMap lineL) := by
  induction l with
  | nil => exact rng_nil
  | cons f l ih => rw [List.flatMap_cons]; exact rng_app (rng_line f) ih
theorem rng_head {a : List Int} (h : Rng a) (l : List S50) : Rng (headL a l ++ [10]) := rng_app (rng_app (rng_app (rng_app h (by unfold Rng; decide)) (rng_lines l)) (by unfold Rng; decide)) (by unfold Rng; decide)
theorem rng_req (qm qt : ByteArray) (m : Int) (h : m = 0 ∨ m = 1) : Rng (reqL qm qt m) := rng_app (rng_app (rng_app (rng_app (rng_bytes _) (by unfold Rng; decide)) (rng_bytes _)) (by unfold Rng; decide)) (rng_ver m h)
structure WrFact (qm qt : ByteArray) (m : Int) (l : List S50) : Prop where
  m0 : bytesOf qm ≠ []
  m1 : ∀ c ∈ bytesOf qm, isTok c = true
  t0 : bytesOf qt ≠ []
  t1 : ∀ c ∈ bytesOf qt, isVis c = true
  v : m = 0 ∨ m = 1
  n : l.length ≤ 64
  ok : ∀ f ∈ l, FineF f
theorem wr_eats {qm qt : ByteArray} {m : Int} {l : List S50} (h : WrFact qm qt m l) (most : Int) (hl : ((headL (reqL qm qt m) l).length : Int) ≤ most) :
    ∃ t, Eats (RdSt.new most true 0) (headL (reqL qm qt m) l) t ∧ Live {t with field := []} 10 true ∧ t.most = most ∧ t.len = (headL (reqL qm qt m) l).length ∧ t.qm = qm ∧ t.qt = qt ∧ t.qn = m ∧ t.field = l :=
  eats_request most qm qt m l h.m0 h.m1 h.t0 h.t1 h.v h.n h.ok hl
theorem parse_written {qm qt : ByteArray} {m : Int} {l : List S50} (h : WrFact qm qt m l) (most : Int) (hm : most ≤ 65536) (hl : ((headL (reqL qm qt m) l ++ [10]).length : Int) ≤ most) :
    head_ParseRequest.f (headL (reqL qm qt m) l ++ [10]) most = some (qm, qt, m, l, ((headL (reqL qm qt m) l ++ [10]).length : Int), none) := by
  have hl' : ((headL (reqL qm qt m) l).length : Int) + 1 ≤ most := by
    rw [List.length_append] at hl
    simpa using hl
  obtain ⟨t, e, L, q1, q2, q3, q4, q5, q6⟩ := wr_eats h most (by omega)
  have F := feed_whole e L (by rw [q6]; exact h.n) (by rw [q1, q2]; exact hl') []
  unfold head_ParseRequest.f
  rw [if_pos ⟨by omega, rng_head (rng_req _ _ _ h.v) l⟩, if_neg (by omega)]
  unfold RdSt.res
  rw [F]
  have te : t.err = none := L.err
  simp only [te, if_true, q3, q4, q5, q6, List.length_append, List.length_cons, List.length_nil, Nat.zero_add]
def codeI (st : Int) : List Int := [48 + st / 100, 48 + st / 10 % 10, 48 + st % 10]
theorem code_dec : ∀ n : Fin 500, decOf (codeI (((n.val : Nat) : Int) + 100)) = ((n.val : Nat) : Int) + 100 := by decide +kernel
theorem codeI_dec (st : Int) (h0 : 100 ≤ st) (h1 : st ≤ 599) : decOf (codeI st) = st := by
  have e : st = (((st - 100).toNat : Nat) : Int) + 100 := by omega
  have k2 := code_dec ⟨(st - 100).toNat, by omega⟩
  simp only [← e] at k2
  exact k2
theorem codeI_ok (st : Int) (h0 : 100 ≤ st) (h1 : st ≤ 599) : (49 ≤ 48 + st / 100 ∧ 48 + st / 100 ≤ 53) ∧ digB (48 + st / 10 % 10) = true ∧ digB (48 + st % 10) = true := by
  refine ⟨by omega, ?_, ?_⟩
  · unfold digB
    rw [if_pos (by omega)]
    exact decide_eq_true (by omega)
  · unfold digB
    rw [if_pos (by omega)]
    exact decide_eq_true (by omega)
theorem an_eats (m st : Int) (pr : ByteArray) (fs : List S50) (ha : 49 ≤ 48 + st / 100 ∧ 48 + st / 100 ≤ 53) (hb : digB (48 + st / 10 % 10) = true) (hc : digB (48 + st % 10) = true) (hr : ∀ c ∈ bytesOf pr, isVal c = true) (hv : m = 0 ∨ m = 1) (hn : fs.length ≤ 64) (ok : ∀ f ∈ fs, FineF f)
    (hl : ((headL (statL m (codeI st) pr) fs).length : Int) ≤ 65536) : ∃ t, Eats (RdSt.new 65536 false 3) (headL (statL m (codeI st) pr) fs) t ∧ Live {t with field := []} 10 false ∧ t.most = 65536 ∧ t.len = (headL (statL m (codeI st) pr) fs).length ∧ t.ps = decOf (codeI st) ∧ t.pr = pr ∧ t.pn = m ∧ t.field = fs := by
  unfold codeI at hl ⊢
  exact eats_response 65536 m _ _ _ pr fs ha hb hc hr hv hn ok hl
structure AnFact (st : Int) (pr : ByteArray) (m : Int) (l : List S50) : Prop where
  s0 : 100 ≤ st
  s1 : st ≤ 599
  r : ∀ c ∈ bytesOf pr, isVal c = true
  v : m = 0 ∨ m = 1
  n : l.length ≤ 64
  ok : ∀ f ∈ l, FineF f
theorem parse_answered {st : Int} {pr : ByteArray} {m : Int} {l : List S50} (h : AnFact st pr m l) (hl : ((headL (statL m (codeI st) pr) l ++ [10]).length : Int) ≤ 65536) :
    head_ParseResponse.f (headL (statL m (codeI st) pr) l ++ [10]) 65536 = some (st, pr, m, l, ((headL (statL m (codeI st) pr) l ++ [10]).length : Int), none) := by
  obtain ⟨s0, s1, hr, hv, k1, k2⟩ := h
  obtain ⟨c1, c2, c3⟩ := codeI_ok st s0 s1
  have hl' : ((headL (statL m (codeI st) pr) l).length : Int) + 1 ≤ 65536 := by
    rw [List.length_append] at hl
    simpa using hl
  obtain ⟨t, e, L, q1, q2, q3, q4, q5, q6⟩ := an_eats m st pr l c1 c2 c3 hr hv k1 k2 (by omega)
  have F := feed_whole e L (by rw [q6]; exact k1) (by rw [q1, q2]; exact hl') []
  have rc : Rng (codeI st) := rng_cons (by omega) (rng_cons (by omega) (rng_cons (by omega) rng_nil))
  have rs : Rng (statL m (codeI st) pr) := rng_app (rng_app (rng_app (rng_app (rng_ver m hv) (by unfold Rng; decide)) rc) (by unfold Rng; decide)) (rng_bytes _)
  unfold head_ParseResponse.f
  rw [if_pos ⟨by omega, rng_head rs l⟩, if_neg (by omega)]
  unfold RdSt.res
  rw [F]
  have te : t.err = none := L.err
  have q3' : t.ps = st := q3.trans (codeI_dec st s0 s1)
  simp only [te, if_true, q3', q4, q5, q6, List.length_append, List.length_cons, List.length_nil, Nat.zero_add]
end Go.Proofs.YtdmbgbennlnpcaaDoor.Hd
namespace Go.Proofs.YtdmbgbennlnpcaaDoor.Q
open Go Go.Proofs.YtdmbgbennlnpcaaDoorAbs Go.Proofs Go.RowKit Go.Proofs.YtdmbgbennlnpcaaDoorW.PrintWords
set_option linter.unusedVariables false
set_option linter.unusedSimpArgs false
def toH (l : List Hd.S50) : List Fld := l.map fun f => (f.f0, f.f1)
def nums8 : List Value → Option (List Int)
  | [] => some []
  | .int .u8 n :: r => (nums8 r).map (n :: ·)
  | _ => none
theorem nums8_eq : ∀ {cs : List Value} {zs : List Int}, nums8 cs = some zs → cs = zs.map (Value.int .u8)
  | [], zs, h => by cases h; rfl
  | c :: cs, zs, h => by
    unfold nums8 at h
    split at h
    · rename_i e; cases e
    · rename_i n r e
      cases e
      obtain ⟨ys, h1, rfl⟩ := Option.map_eq_some_iff.1 h
      rw [List.map_cons, ← nums8_eq h1]
    · cases h
theorem nums8_u8v : ∀ l : List UInt8, nums8 (u8v l) = some (l.map fun b => (b.toNat : Int))
  | [] => rfl
  | b :: l => by
    show (nums8 (u8v l)).map _ = _
    rw [nums8_u8v l]
    rfl
def newV (l : List Fld) (S : St) : Value := .slice (some ⟨S.next, 0, some 0⟩) l.length (UNK + 2)
theorem row_new {w w' : World} {v : Value} {l : List Hd.S50} (h : Kd.R Hd.k50 50 w' w.heap.size (fun _ => True) v l) :
    (l = [] ∧ v = .slice none 0 0) ∨ (∃ g cap, v = .slice (some ⟨g, 0, none⟩) l.length cap ∧ w.heap.size ≤ g ∧ g < w'.heap.size ∧ l.length ≤ cap ∧ ∀ (j : Nat) (u : Value), (fldv (toH l))[j]? = some u → w'.cell? ⟨g, j, none⟩ = some u) := by
  obtain ⟨_, inner, ho, hr⟩ := h
  have hin : inner = fldv (toH l) := by
    obtain ⟨hl, hat⟩ := hr
    have hl2 : inner.length = l.length * 2 := hl
    have hfl : (fldv (toH l)).length = l.length * 2 := by rw [fldv_len]; simp [toH]
    refine List.ext_getElem? fun j => ?_
    by_cases hj : j < l.length * 2
    · have hlt : j / 2 < l.length := by omega
      have h1 := hat (j / 2) l[j / 2] (List.getElem?_eq_getElem hlt)
      have h2 := Hd.k50_openM h1
      have hlt2 : j / 2 < (toH l).length := by simpa [toH] using hlt
      have h3 := fldv_at (toH l) (j / 2) hlt2
      have h4 : ((inner.drop (j / 2 * 2)).take 2)[j % 2]? = (((fldv (toH l)).drop (j / 2 * 2)).take 2)[j % 2]? := by
        rw [h3, show ((inner.drop (j / 2 * 2)).take 2) = [.string (l[j / 2]).f0, .string (l[j / 2]).f1] from h2]
        simp [toH]
      rw [List.getElem?_take, List.getElem?_take, if_pos (by omega), if_pos (by omega), List.getElem?_drop, List.getElem?_drop, Nat.div_add_mod' j 2] at h4
      exact h4
    · rw [List.getElem?_eq_none (by omega), List.getElem?_eq_none (by omega)]
  rcases ho.2 with ⟨hv, hn⟩ | ⟨g, cap, cur, hv, hg, hh, hn, hcap, hsz, hcur⟩
  · exact .inl ⟨List.length_eq_zero_iff.1 hn, hv⟩
  · refine .inr ⟨g, cap, hv, hg, (Array.getElem?_eq_some_iff.1 hh).1, hn, fun j u hj => ?_⟩
    have hfl : (fldv (toH l)).length = l.length * 2 := by rw [fldv_len]; simp [toH]
    have hjl : j < l.length * 2 := by
      rw [← hfl]
      exact (List.getElem?_eq_some_iff.1 hj).1
    rw [← hin, ← hcur, List.getElem?_take, if_pos (show j < l.length * Hd.k50.sz from hjl)] at hj
    simp only [World.cell?, hh]
    rw [← Array.getElem?_toList]
    exact hj
theorem fldv_leaf (l : List Fld) : (fldv l).all leaf = true := by
  induction l with
  | nil => rfl
  | cons f l ih =>
    show (([Value.string f.1, Value.string f.2] ++ fldv l).all leaf) = true
    rw [List.all_append, ih]; rfl
theorem new_sim {ρ : Ren} {S : St} {w w' : World} {v : Value} {l : List Hd.S50} (hrel : Rel Tryd.prog ρ S w) (hf : ∀ L, ρ S.next L = none) (hb : Below w.heap.size w w') (h : Kd.R Hd.k50 50 w' w.heap.size (fun _ => True) v l) :
    ∃ ρ', VR ρ' (newV (toH l) S) v ∧ Step Tryd.prog ρ S w ρ' (S.push ⟨fldv (toH l), 0, false, 0⟩) w' := by
  have hl : (toH l).length = l.length := by simp [toH]
  rcases row_new h with ⟨rfl, rfl⟩ | ⟨g, cap, rfl, h1, h2, h3, h4⟩
  · exact ⟨ρ, .sl0 _ _ _ _ _ _ (.inl ⟨rfl, .inl (Nat.le_add_right _ _)⟩), Go.Proofs.YtdmbgbennlnpcaaDoorAbs.step_pass hrel hf hb _⟩
  · refine ⟨_, ?_, Go.Proofs.YtdmbgbennlnpcaaDoorAbs.step_new hrel hf hb h1 h2 (fldv_leaf _) h4⟩
    unfold newV
    rw [hl]
    exact .sl S.next 0 0 0 l.length (UNK + 2) cap ⟨g, 0, 0, 0, 0, false⟩ (by simp [Ren.add]) (Nat.le_refl _) (by simp) (.inl (Nat.le_add_right _ _)) h3 (fun q => by cases q)
theorem kdC_u8 {w : World} {A : Option Addr} {ns : List Int} (h : ∀ (j : Nat) (u : Value), (ns.map (Value.int .u8))[j]? = some u → ∃ ad, A = some ad ∧ w.cell? (ad.add j) = some u) (hn : ns.length ≤ 9223372036854775807) : Kd.C (Kd.int .u8) w A ns.length ns := by
  refine ⟨rfl, hn, fun hp => ?_⟩
  obtain ⟨ad, e, _⟩ := h 0 (.int .u8 ns[0]) (by simp [hp])
  refine ⟨ad, e, fun j p hp' => ⟨[.int .u8 p], rfl, rfl, fun i u hi => ?_⟩⟩
  cases i with
  | zero =>
    cases hi
    obtain ⟨ad', e', hc⟩ := h j (.int .u8 p) (by simp [hp'])
    rw [e] at e'
    cases e'
    show w.cell? (ad.add (j * 1 + 0)) = _
    rw [Nat.mul_one, Nat.add_zero]
    exact hc
  | succ i => simp at hi
theorem errW_eq (o : Option Int) : Hd.errW o = errW o := by cases o <;> rfl
theorem errW_leaf (r : Option Int) : leaf (errW r) = true := by cases r <;> rfl
noncomputable def pQ (xs : Array Value) (S : St) : Option (Value × St) := match xs with
  | ⟨[v, .int .i64 most]⟩ => (cellsAt 1 S v).bind fun cs => (nums8 cs).bind fun ns => (Hd.head_ParseRequest.f ns most).map fun r =>
      (.tuple #[.agg #[.string r.1, .string r.2.1, .int .i64 r.2.2.1, newV (toH r.2.2.2.1) S], .int .i64 r.2.2.2.2.1, errW r.2.2.2.2.2], S.push ⟨fldv (toH r.2.2.2.1), 0, false, 0⟩)
  | _ => none
noncomputable def pP (xs : Array Value) (S : St) : Option (Value × St) := match xs with
  | ⟨[v, .int .i64 most]⟩ => (cellsAt 1 S v).bind fun cs => (nums8 cs).bind fun ns => (Hd.head_ParseResponse.f ns most).map fun r =>
      (.tuple #[.agg #[.int .i64 r.1, .string r.2.1, .int .i64 r.2.2.1, newV (toH r.2.2.2.1) S], .int .i64 r.2.2.2.2.1, errW r.2.2.2.2.2], S.push ⟨fldv (toH r.2.2.2.1), 0, false, 0⟩)
  | _ => none
theorem sim_Q {xs : Array Value} {S S' : St} {v : Value} (h : pQ xs S = some (v, S')) {ρ : Ren} {w : World} {ys : Array Value} (hrel : Rel Tryd.prog ρ S w) (hxs : VRL ρ xs.toList ys.toList) (hf : Fresh ρ S S') :
    Calls Tryd.prog 36 ys w fun e w' => ∃ ρ' cv, e = .returned cv ∧ VR ρ' v cv ∧ Step Tryd.prog ρ S w ρ' S' w' := by
  unfold pQ at h
  split at h
  case h_2 => cases h
  rename_i u most
  obtain ⟨cs, h1, h2⟩ := Option.bind_eq_some_iff.1 h
  obtain ⟨ns, h3, h4⟩ := Option.bind_eq_some_iff.1 h2
  obtain ⟨⟨r1, r2, r3, r4, r5, r6⟩, h5, h6⟩ := Option.map_eq_some_iff.1 h4
  cases h6
  have hn := nums8_eq h3
  subst hn
  obtain ⟨y, ys', hy, k4, k5⟩ := hxs.uncons
  obtain ⟨z, zs', rfl, k6, k7⟩ := k5.uncons
  obtain rfl := k7.of_nil
  obtain rfl := k6.leaf_eq rfl
  obtain ⟨A, n, C, rfl, q1, q2, q3, _⟩ := cellsAt_sim hrel k4 h1
  obtain rfl : ys = #[.slice A n C, .int .i64 most] := Array.ext' hy
  have hnn : n = ns.length := by simpa using q2.symm
  subst hnn
  have hle : ns.length ≤ 9000000000000000000 := by
    unfold Hd.head_ParseRequest.f at h5
    split at h5
    · rename_i hc; exact hc.1
    · cases h5
  refine (Hd.head_ParseRequest.calls A C ns most r1 r2 r3 r4 r5 r6 w (kdC_u8 q3 (by omega)) q1 h5).mono ?_
  rintro e w' ⟨v3, rfl, hR, hb⟩
  obtain ⟨ρ', hv, st⟩ := new_sim hrel (fun L => hf S.next L (Nat.le_refl _) (Nat.lt_succ_self _)) hb hR
  refine ⟨ρ', _, rfl, VR.tuple' (VRL.cons (VR.agg' (VRL.cons (VR.scalar rfl) (VRL.cons (VR.scalar rfl) (VRL.cons (VR.scalar rfl) (VRL.cons hv (VRL.nil _)))))) (VRL.cons (VR.scalar rfl) (VRL.cons ?_ (VRL.nil _)))), st⟩
  rw [errW_eq]
  exact .leaf _ (errW_leaf _)
theorem sim_P {xs : Array Value} {S S' : St} {v : Value} (h : pP xs S = some (v, S')) {ρ : Ren} {w : World} {ys : Array Value} (hrel : Rel Tryd.prog ρ S w) (hxs : VRL ρ xs.toList ys.toList) (hf : Fresh ρ S S') :
    Calls Tryd.prog 37 ys w fun e w' => ∃ ρ' cv, e = .returned cv ∧ VR ρ' v cv ∧ Step Tryd.prog ρ S w ρ' S' w' := by
  unfold pP at h
  split at h
  case h_2 => cases h
  rename_i u most
  obtain ⟨cs, h1, h2⟩ := Option.bind_eq_some_iff.1 h
  obtain ⟨ns, h3, h4⟩ := Option.bind_eq_some_iff.1 h2
  obtain ⟨⟨r1, r2, r3, r4, r5, r6⟩, h5, h6⟩ := Option.map_eq_some_iff.1 h4
  cases h6
  have hn := nums8_eq h3
  subst hn
  obtain ⟨y, ys', hy, k4, k5⟩ := hxs.uncons
  obtain ⟨z, zs', rfl, k6, k7⟩ := k5.uncons
  obtain rfl := k7.of_nil
  obtain rfl := k6.leaf_eq rfl
  obtain ⟨A, n, C, rfl, q1, q2, q3, _⟩ := cellsAt_sim hrel k4 h1
  obtain rfl : ys = #[.slice A n C, .int .i64 most] := Array.ext' hy
  have hnn : n = ns.length := by simpa using q2.symm
  subst hnn
  have hle : ns.length ≤ 9000000000000000000 := by
    unfold Hd.head_ParseResponse.f at h5
    split at h5
    · rename_i hc; exact hc.1
    · cases h5
  refine (Hd.head_ParseResponse.calls A C ns most r1 r2 r3 r4 r5 r6 w (kdC_u8 q3 (by omega)) q1 h5).mono ?_
  rintro e w' ⟨v3, rfl, hR, hb⟩
  obtain ⟨ρ', hv, st⟩ := new_sim hrel (fun L => hf S.next L (Nat.le_refl _) (Nat.lt_succ_self _)) hb hR
  refine ⟨ρ', _, rfl, VR.tuple' (VRL.cons (VR.agg' (VRL.cons (VR.scalar rfl) (VRL.cons (VR.scalar rfl) (VRL.cons (VR.scalar rfl) (VRL.cons hv (VRL.nil _)))))) (VRL.cons (VR.scalar rfl) (VRL.cons ?_ (VRL.nil _)))), st⟩
  rw [errW_eq]
  exact .leaf _ (errW_leaf _)
end Go.Proofs.YtdmbgbennlnpcaaDoor.Q
namespace Go.Proofs.YtdmbgbennlnpcaaDoor.Q
open Go Go.Proofs.YtdmbgbennlnpcaaDoorAbs Go.Proofs Go.RowKit Go.Proofs.YtdmbgbennlnpcaaDoorW.PrintWords
set_option linter.unusedVariables false
set_option linter.unusedSimpArgs false
def ints (l : List UInt8) : List Int := l.map fun b => (b.toNat : Int)
def toHd (l : List Fld) : List Hd.S50 := l.map fun f => ⟨f.1, f.2⟩
theorem toH_toHd (l : List Fld) : toH (toHd l) = l := by
  unfold toH toHd
  rw [List.map_map]
  exact List.map_id l
theorem ints_app (a b : List UInt8) : ints (a ++ b) = ints a ++ ints b := List.map_append
theorem tok_hd : ∀ n : Fin 256, tokB (n.val : Int) = true → Hd.isTok (n.val : Int) = true := by decide +kernel
theorem tok_hdU (u : UInt8) (h : tokB (u.toNat : Int) = true) : Hd.isTok (u.toNat : Int) = true := tok_hd ⟨u.toNat, u.toNat_lt⟩ h
theorem vis_hd (c : Int) (h : visB c = true) : Hd.isVis c = true := by
  simp only [visB, Bool.and_eq_true, decide_eq_true_eq] at h
  unfold Hd.isVis
  rw [if_pos (by omega)]
  exact decide_eq_true h.2
theorem val_hd (c : Int) (h : valB c = true) : Hd.isVal c = true := by
  simp only [valB, Bool.or_eq_true, Bool.and_eq_true, decide_eq_true_eq, Bool.not_eq_true', decide_eq_false_iff_not] at h
  unfold Hd.isVal
  by_cases q : c = 9
  · rw [if_pos q]
  · rw [if_neg q]
    rcases h with h | h
    · exact absurd h q
    · rw [if_pos (by omega)]
      simpa using h.2
theorem all_hd {p q : Int → Bool} (hpq : ∀ u : UInt8, p (u.toNat : Int) = true → q (u.toNat : Int) = true) {s : ByteArray} (h : allB p s = true) : ∀ c ∈ bytesOf s, q c = true := by
  intro c hc
  obtain ⟨b, hb, rfl⟩ := List.mem_map.1 hc
  simp only [allB, List.all_eq_true] at h
  exact hpq b (h b hb)
theorem isTok_hd {s : ByteArray} (h : isTokB s = true) : bytesOf s ≠ [] ∧ ∀ c ∈ bytesOf s, Hd.isTok c = true := by
  simp only [isTokB, Bool.and_eq_true, Bool.not_eq_true', List.isEmpty_eq_false_iff] at h
  exact ⟨fun q => h.1 (List.map_eq_nil_iff.1 q), all_hd tok_hdU h.2⟩
theorem fine_hd {f : Fld} (h : OkFld f) : Hd.FineF ⟨f.1, f.2⟩ where
  name := (isTok_hd h.tok).2
  ne := (isTok_hd h.tok).1
  val := all_hd (fun u => val_hd _) h.val
  trim := by
    have := congrArg (fun t : ByteArray => t.data.toList) h.trim
    show Go.Lib.trimS f.2.data.toList [32, 9] = _
    simpa [trimB] using this
theorem fines_hd {l : List Fld} (h : fineB l) : (toHd l).length ≤ 64 ∧ ∀ f ∈ toHd l, Hd.FineF f := by
  refine ⟨by simpa [toHd] using h.1, fun f hf => ?_⟩
  obtain ⟨g, hg, rfl⟩ := List.mem_map.1 hf
  exact fine_hd (h.2 g hg)
theorem line_hd (f : Fld) : ints (lineB f) = Hd.lineL ⟨f.1, f.2⟩ := by
  simp only [lineB, ints_app, Hd.lineL]
  rfl
theorem lines_hd : ∀ l : List Fld, ints (linesB l) = (toHd l).flatMap Hd.lineL
  | [] => rfl
  | f :: l => by
    have ih := lines_hd l
    simp only [linesB, toHd, List.flatMap_cons, List.map_cons, ints_app, line_hd] at ih ⊢
    rw [ih]
theorem head_hd (first : List UInt8) (l : List Fld) : ints (headB first l) = Hd.headL (ints first) (toHd l) ++ [10] := by
  simp only [headB, ints_app, lines_hd, Hd.headL, List.append_assoc]
  rfl
theorem ver_hd {n : Int} (h : n = 0 ∨ n = 1) : ints [72, 84, 84, 80, 47, 49, 46] ++ ints [dig01 n] = Hd.verL n := by
  rcases h with rfl | rfl <;> rfl
theorem firstQ_hd (m t : ByteArray) {n : Int} (h : n = 0 ∨ n = 1) : ints (firstQ m t (dig01 n)) = Hd.reqL m t n := by
  unfold Hd.reqL
  rw [← ver_hd h]
  simp only [firstQ, ints_app, List.append_assoc]
  rfl
theorem dg3_hd : ∀ n : Fin 500, ints (dg3 (((n.val : Nat) : Int) + 100)) = Hd.codeI (((n.val : Nat) : Int) + 100) := by decide +kernel
theorem dg3_hdI {st : Int} (h0 : 100 ≤ st) (h1 : st ≤ 599) : ints (dg3 st) = Hd.codeI st := by
  have e : st = (((st - 100).toNat : Nat) : Int) + 100 := by omega
  have k2 := dg3_hd ⟨(st - 100).toNat, by omega⟩
  simp only [← e] at k2
  exact k2
theorem firstP_hd (r : ByteArray) {n st : Int} (h : n = 0 ∨ n = 1) (h0 : 100 ≤ st) (h1 : st ≤ 599) : ints (firstP r (dig01 n) st) = Hd.statL n (Hd.codeI st) r := by
  unfold Hd.statL
  rw [← ver_hd h, ← dg3_hdI h0 h1]
  simp only [firstP, ints_app, List.append_assoc]
  rfl
theorem ba_ne {t : ByteArray} (h : t ≠ ⟨#[]⟩) : bytesOf t ≠ [] := fun q => h (ba_ext (List.map_eq_nil_iff.1 q))
theorem read_req {m t : ByteArray} {n : Int} {l : List Fld} (h : reqE m t n l = none) :
    Hd.head_ParseRequest.f (ints (headB (firstQ m t (dig01 n)) l)) 65536 = some (m, t, n, toHd l, ((headB (firstQ m t (dig01 n)) l).length : Int), none) := by
  have hl : (headB (firstQ m t (dig01 n)) l).length ≤ 65536 := by
    unfold reqE at h
    repeat' (split at h)
    all_goals first | assumption | cases h
  obtain ⟨a, b⟩ := reqE_none h
  obtain ⟨b1, b2⟩ := fines_hd b
  have hb := head_hd (firstQ m t (dig01 n)) l
  rw [firstQ_hd m t a.minN] at hb
  have hz : (ints (headB (firstQ m t (dig01 n)) l)).length = (headB (firstQ m t (dig01 n)) l).length := List.length_map _
  rw [← hz, hb]
  exact Hd.parse_written ⟨(isTok_hd a.tokM).1, (isTok_hd a.tokM).2, ba_ne a.neT, all_hd (fun u => vis_hd _) a.visT, a.minN, b1, b2⟩ 65536 (by decide) (by rw [← hb, hz]; omega)
theorem resE_none {r : ByteArray} {n st : Int} {l : List Fld} (h : resE r n st l = none) : LineP n r st ∧ fineB l ∧ (headB (firstP r (dig01 n) st) l).length ≤ 65536 := by
  unfold resE at h
  repeat' (split at h)
  all_goals first | (cases h; done) | exact ⟨by assumption, by assumption, by assumption⟩
theorem read_res {r : ByteArray} {n st : Int} {l : List Fld} (h : resE r n st l = none) (hs : st ≤ 599) :
    Hd.head_ParseResponse.f (ints (headB (firstP r (dig01 n) st) l)) 65536 = some (st, r, n, toHd l, ((headB (firstP r (dig01 n) st) l).length : Int), none) := by
  obtain ⟨a, b, hl⟩ := resE_none h
  obtain ⟨b1, b2⟩ := fines_hd b
  have hb := head_hd (firstP r (dig01 n) st) l
  rw [firstP_hd r a.minN a.ge hs] at hb
  have hz : (ints (headB (firstP r (dig01 n) st) l)).length = (headB (firstP r (dig01 n) st) l).length := List.length_map _
  rw [← hz, hb]
  exact Hd.parse_answered ⟨a.ge, hs, all_hd (fun u => val_hd _) a.visR, a.minN, b1, b2⟩ (by rw [← hb, hz]; omega)
noncomputable def prims2 : Prims := fun k f => if f = 36 then some pQ else if f = 37 then some pP else prims1 k f
theorem prims2_sim : PrimSim Tryd.prog prims2 := by
  refine ⟨fun k f p hp xs S v S' hr => ?_, fun k f p hp xs S v S' hr ρ w ys hrel hwf hxs hf => ?_⟩
  · unfold prims2 at hp
    split at hp
    · cases hp
      unfold pQ at hr
      split at hr
      case h_2 => cases hr
      obtain ⟨cs, h1, h2⟩ := Option.bind_eq_some_iff.1 hr
      obtain ⟨ns, h3, h4⟩ := Option.bind_eq_some_iff.1 h2
      obtain ⟨r, h5, h6⟩ := Option.map_eq_some_iff.1 h4
      cases h6
      exact Mono.push S _
    · split at hp
      · cases hp
        unfold pP at hr
        split at hr
        case h_2 => cases hr
        obtain ⟨cs, h1, h2⟩ := Option.bind_eq_some_iff.1 hr
        obtain ⟨ns, h3, h4⟩ := Option.bind_eq_some_iff.1 h2
        obtain ⟨r, h5, h6⟩ := Option.map_eq_some_iff.1 h4
        cases h6
        exact Mono.push S _
      · exact prims1_sim.mono k f p hp xs S v S' hr
  · unfold prims2 at hp
    split at hp
    · rename_i h36
      cases hp
      subst h36
      exact sim_Q hr hrel hxs hf
    · split at hp
      · rename_i h37
        cases hp
        subst h37
        exact sim_P hr hrel hxs hf
      · exact prims1_sim.sim k f p hp xs S v S' hr ρ w ys hrel hwf hxs hf
structure HB (I : Prims) : Prop extends HW I where
  preq : ∀ (S : St) (v : Value) (bs : List UInt8) (m t : ByteArray) (n : Int) (l : List Fld) (Q : Value → St → Prop), Own 5 1 S v bs.length (u8v bs) → Hd.head_ParseRequest.f (ints bs) 65536 = some (m, t, n, toHd l, (bs.length : Int), none) →
    (∀ b S', b = S.next → S' = S.push ⟨fldv l, 0, false, 0⟩ → Q (.tuple #[.agg #[.string m, .string t, .int .i64 n, .slice (some ⟨b, 0, some 0⟩) l.length (UNK + 2)], .int .i64 bs.length, .nilIface]) S') → C Tryd.prog I 36 #[v, .int .i64 65536] S Q
  pres : ∀ (S : St) (v : Value) (bs : List UInt8) (st : Int) (r : ByteArray) (n : Int) (l : List Fld) (Q : Value → St → Prop), Own 5 1 S v bs.length (u8v bs) → Hd.head_ParseResponse.f (ints bs) 65536 = some (st, r, n, toHd l, (bs.length : Int), none) →
    (∀ b S', b = S.next → S' = S.push ⟨fldv l, 0, false, 0⟩ → Q (.tuple #[.agg #[.int .i64 st, .string r, .int .i64 n, .slice (some ⟨b, 0, some 0⟩) l.length (UNK + 2)], .int .i64 bs.length, .nilIface]) S') → C Tryd.prog I 37 #[v, .int .i64 65536] S Q
theorem prims2_other {f : FuncId} (h : isPrim f = true → f ≠ 36 ∧ f ≠ 37) (k : Nat) : isPrim f = false → prims2 k f = none := fun hf => by
  have h' := hf
  simp only [isPrim, Bool.or_eq_false_iff, beq_eq_false_iff_ne, ne_eq] at h'
  unfold prims2
  rw [if_neg h'.1.2, if_neg h'.2]
  exact prims1_ok.no f hf k
theorem u8v_leaf (l : List UInt8) : (u8v l).all leaf = true := by simp [u8v, leaf]
theorem C_36 {S S' : St} {xs : Array Value} {v : Value} {Q : Value → St → Prop} (h : pQ xs S = some (v, S')) (hq : Q v S') : C Tryd.prog prims2 36 xs S Q := C_prim ⟨0, fun k' _ => ⟨_, rfl, h⟩⟩ hq
theorem C_37 {S S' : St} {xs : Array Value} {v : Value} {Q : Value → St → Prop} (h : pP xs S = some (v, S')) (hq : Q v S') : C Tryd.prog prims2 37 xs S Q := C_prim ⟨0, fun k' _ => ⟨_, rfl, h⟩⟩ hq
theorem prims2_itoa {S : St} {n : Int} {Q : Value → St → Prop} (h0 : -9223372036854775808 ≤ n) (h1 : n ≤ 9223372036854775807) (hP : (0 ≤ n ∧ n < 100) ∨ PG S) (hQ : Q (.string ⟨(Lib.itoa n).toArray⟩) S) : C Tryd.prog prims2 40 #[.int .i64 n] S Q := by
  refine C_prim ⟨0, fun k' _ => ⟨_, rfl, ?_⟩⟩ hQ
  have : pItoa k' #[.int .i64 n] S = some (.string ⟨(Lib.itoa n).toArray⟩) := by
    unfold pItoa
    simp only [itoaC_eq h0 h1]
    by_cases hs : 0 ≤ n ∧ n < 100
    · rw [if_pos hs]
    · rw [if_neg hs, if_pos ⟨h0, h1, powOk_pg (hP.resolve_left hs)⟩]
  exact congrArg (Option.map fun x => (x, S)) this
theorem prims2_ok : HB prims2 where
  no := fun f hf k => prims2_other (fun h => by rw [h] at hf; cases hf) k hf
  idxS := fun s c S Q hq => C_prim ⟨0, fun k' _ => ⟨_, rfl, rfl⟩⟩ hq
  trim := fun S s Q hs hq => by
    refine C_prim ⟨0, fun k' _ => ⟨_, rfl, ?_⟩⟩ hq
    have : pTrim k' #[.string s, .string ⟨#[32, 9]⟩] S = some (.string (trimB s)) := by
      unfold pTrim
      exact if_pos ⟨hs, rfl⟩
    exact congrArg (Option.map fun x => (x, S)) this
  itoaI := fun S n Q h0 h1 hP hq => prims2_itoa h0 h1 (.inr hP) hq
  itoaT := fun S n Q h0 hP hq => prims2_itoa (by omega) (by omega) (.inr hP) (by rw [itoa_nat]; exact hq)
  itoa := fun S n Q h0 hq => prims2_itoa (by omega) (by omega) (.inl (by omega)) (by rw [itoa_nat]; exact hq)
  join := fun S b el m x y sep Q hb hm hs hq => by
    refine C_prim ⟨0, fun k' _ => ⟨_, rfl, ?_⟩⟩ hq
    have hc : cellsAt 1 S (.slice (some ⟨b, 0, some 2⟩) 2 2) = some [.string x, .string y] := by
      simp only [cellsAt]
      rw [if_neg (by decide)]
      have : aread S ⟨b, 0, some 2⟩ (2 * 1) = some [.string x, .string y] := by
        unfold aread
        simp only [hb]
        rw [if_pos ⟨fun _ => ⟨hm, by simp⟩, by simp⟩]
        rfl
      simp [this, leaf]
    have : pJoin k' #[.slice (some ⟨b, 0, some 2⟩) 2 2, .string sep] S = some (.string (x ++ sep ++ y)) := by
      unfold pJoin
      simp only [hc, Option.bind_some, strsOf, Option.map_some]
      rw [if_pos hs]
    exact congrArg (Option.map fun x => (x, S)) this
  works := fun S Q hP hq => by
    refine C_prim ⟨0, fun k' _ => ⟨_, rfl, ?_⟩⟩ hq
    have : pWorks k' #[] S = some (.bool true) := by
      unfold pWorks
      rw [if_pos ⟨rfl, hP.2⟩]
    exact congrArg (Option.map fun x => (x, S)) this
  preq := fun S v bs m t n l Q hO hf hq => by
    have hc := cellsAt_own hO (u8v_leaf bs) Nat.one_pos
    refine C_36 ?_ (hq S.next _ rfl rfl)
    unfold pQ
    simp only [hc, Option.bind_some, nums8_u8v]
    rw [show (bs.map fun b => (b.toNat : Int)) = ints bs from rfl, hf]
    simp only [Option.map_some, newV, toH_toHd, errW]
  pres := fun S v bs st r n l Q hO hf hq => by
    have hc := cellsAt_own hO (u8v_leaf bs) Nat.one_pos
    refine C_37 ?_ (hq S.next _ rfl rfl)
    unfold pP
    simp only [hc, Option.bind_some, nums8_u8v]
    rw [show (bs.map fun b => (b.toNat : Int)) = ints bs from rfl, hf]
    simp only [Option.map_some, newV, toH_toHd, errW]
end Go.Proofs.YtdmbgbennlnpcaaDoor.Q
namespace Go.Proofs.YtdmbgbennlnpcaaDoor.Q
open Go Go.Proofs.YtdmbgbennlnpcaaDoorAbs Go.Proofs
set_option linter.unusedVariables false
set_option linter.unusedSimpArgs false
set_option maxRecDepth 100000
set_option maxHeartbeats 4000000
attribute [local irreducible] Go.Proofs.YtdmbgbennlnpcaaDoorAbs.O Go.Proofs.YtdmbgbennlnpcaaDoorAbs.W Go.Proofs.YtdmbgbennlnpcaaDoorAbs.C Go.Proofs.YtdmbgbennlnpcaaDoorAbs.OK Go.Proofs.YtdmbgbennlnpcaaDoorAbs.OKF Go.Proofs.YtdmbgbennlnpcaaDoorAbs.OKT Go.Proofs.YtdmbgbennlnpcaaDoorAbs.then_ Go.Proofs.YtdmbgbennlnpcaaDoorAbs.inBlock_ Go.Proofs.YtdmbgbennlnpcaaDoorAbs.bodyQ Go.Proofs.YtdmbgbennlnpcaaDoorAbs.Cont
theorem in_eq (x : Operand) (c : Int) : binX Tryd.prog .eql 27 x (.const .nilIface) (.iface 68 (.int .i64 c)) .nilIface = some (.bool false) := by cases x <;> kernel_rfl
theorem head_pos (first : List UInt8) (l : List Fld) : 0 < (headB first l).length := by simp [headB]; omega
section
variable {I : Prims} {S S0 : St} {Q : Value → St → Prop} {e : Env}
theorem back_walk (h : HB I) (hPG : PG S) {m t : ByteArray} {n : Int} {vl : Value} {l : List Fld} (hF : SF S vl l) (hm : m.size ≤ 1048576) (ht : t.size ≤ 1048576) (hn : l.length ≤ 1048576) (hsz : ∀ f ∈ l, f.1.size ≤ 1048576 ∧ f.2.size ≤ 1048576)
    {r' : ByteArray} {n' st : Int} {vl' : Value} {l' : List Fld} (hF' : SF S vl' l') (hr' : r'.size ≤ 1048576) (hn' : l'.length ≤ 1048576) (hsz' : ∀ f ∈ l', f.1.size ≤ 1048576 ∧ f.2.size ≤ 1048576)
    (hQ : ∀ S', Q (.bool true) S') : C Tryd.prog I 8 #[.agg #[.string m, .string t, .int .i64 n, vl], .agg #[.int .i64 st, .string r', .int .i64 n', vl']] S Q := by
  refine C_body (rs := [.tmp 4]) (h.no 8 (by decide)) Tryd.func8 rfl rfl ok8 ?_
  obtain ⟨sz24, u9, sz3, u3, sz9, sz22, u22, u25, sz5, u5, sz38, u4, sz49, sz50, u58, u70, sz85, sz98, u103, sz25, u114, sz113, u88, sz27, sz108, u108, sz4, sz96, u96, u2, sz123, u123, sz130, u130, u139, sz103, u140, sz141, u142, u141, u21⟩ := UF
  have ki := ki27
  have hFr := hF.rf
  have hFr' := hF'.rf
  obtain ⟨a0, c0, e0, -⟩ := hF.rf
  obtain ⟨a0', c0', e0', -⟩ := hF'.rf
  subst e0 e0'
  have dl : decide (l = l) = true := decide_eq_true rfl
  have dl' : decide (l' = l') = true := decide_eq_true rfl
  obtain ⟨S1, hS1⟩ : ∃ S1, (S.push ⟨[.string m, .string t, .int .i64 n, .slice a0 l.length c0], 38, true, 0⟩).push ⟨[.int .i64 st, .string r', .int .i64 n', .slice a0' l'.length c0'], 24, true, 0⟩ = S1 := ⟨_, rfl⟩
  have n1 : S1.next = S.next + 2 := by rw [← hS1]; rfl
  have k1 : Kept S S1 none := by rw [← hS1]; exact (Kept.push _ none).trans (Kept.push _ none)
  have g1 : S1.get S.next = some ⟨[.string m, .string t, .int .i64 n, .slice a0 l.length c0], 38, true, 0⟩ := by
    rw [← hS1, St.get_push_ne _ _ (by simp), St.get_push_self]
  have g2 : S1.get (S.next + 1) = some ⟨[.int .i64 st, .string r', .int .i64 n', .slice a0' l'.length c0'], 24, true, 0⟩ := by
    rw [← hS1, show S.next + 1 = (S.push ⟨[.string m, .string t, .int .i64 n, .slice a0 l.length c0], 38, true, 0⟩).next from rfl, St.get_push_self]
  by_cases hE : reqE m t n l = none
  · repeat' (first
    | (with_reducible first | refine W_pushC fun K hK => ?_ | refine W_blockI ?_ | refine W_scopeI ?_ | refine W_labelI ?_ | refine W_skipI ?_ | refine W_retI ?_ | refine W_exitI ?_ | refine then_normalI ?_ | refine then_retI ?_ | refine then_exitI ?_ | refine inBlock_normalI ?_ | refine inBlock_retI ?_ | refine inBlock_exitI ?_ | refine inBlock_exitN (by decide) ?_)
    | ((with_reducible first | refine bodyQ_normal0 ?_ | refine bodyQ_normal1 ?_ | refine bodyQ_normal2 ?_ | refine bodyQ_normal3 ?_ | refine bodyQ_normal4 ?_ | refine bodyQ_ret0 ?_ | refine bodyQ_ret1 ?_ | refine bodyQ_ret2 ?_ | refine bodyQ_ret3 ?_ | refine bodyQ_ret4 ?_); (try simp only [EVB, Nat.reduceEqDiff, reduceIte]))
    | ((with_reducible show C _ _ _ _ _ _); first | ((refine Request_C h.toHP (hFr.kept k1) hm ht hn hsz (fun v1 S2 p1 p2 k2 => ?_))))
    | (with_reducible refine Cont.use (by assumption) ?_)
    | (with_reducible first | refine hcA ?_ | refine hcB ?_)
    | ((with_reducible first | refine W_condG fun cA cB hcA hcB => ?_ | refine W_regionI ?_ | show O _ _ _ _ _ _ _ _ | show OK _ _ _ _ _ _ _ _ _ | show OKF _ _ _ _ _ _ _ _ _ _ | show OKT _ _ _ _ _ _ _ _ _ _ _ _ | show _ ∧ _ | show CG _ _ _ | show CB _ _ _); simp (disch := first | ((with_reducible show isStop _ = false); rfl) | ((with_reducible show isP _ = true); rfl) | ((with_reducible show (isStop _ || isP _) = false); rfl) | assumption | (simp only [GSB, Nat.reduceEqDiff, reduceIte]; done) | omega | (with_reducible decide) | (simp only [DSB, Go.Proofs.YtdmbgbennlnpcaaDoorAbs.oneC, Go.Proofs.YtdmbgbennlnpcaaDoorAbs.St.next_withLow, Nat.reduceAdd, Nat.reduceLeDiff] <;> omega) | fail) only [↓DN, ↓reduceIte, UP, CGB, Int.reduceEq, Int.reduceLT, Int.reduceLE, Nat.reduceEqDiff, Nat.reduceAdd, Nat.reduceMul, Nat.reduceSub, Int.reduceToNat, Nat.reduceLeDiff, PF, isStop, isP, goInt, beq_self_eq_true, decide_true, decide_false, Int.toNat_natCast, Int.natCast_zero, nn_eq, nn_ne, errW0, errW1, hS1, g1, g2, hE])
    | ((with_reducible refine CB_intro (fun ht => hcA ?_) (fun ht => hcB ?_)) <;> (first | (simp only [Bool.true_eq_false, Bool.false_eq_true] at ht; done) | ((try simp only [Bool.not_eq_true', Bool.not_eq_false'] at ht); (try simp only [ht]); (try simp only [HTN] at ht); (try (exfalso; omega)))))
    | ((with_reducible refine W_regionI ?_); simp only [List.append_eq, List.cons_append, List.nil_append])
    | (with_reducible refine O_splitG fun cA cB hcA hcB => ?_))
    have g12 := k2.get (by omega) g1
    have g22 := k2.get (by omega) g2
    have A1 := p1 hE
    have hrq := read_req hE
    generalize hbs1 : headB (firstQ m t (dig01 n)) l = bs1 at *
    have hp1 : 0 < bs1.length := by rw [← hbs1]; exact head_pos _ _
    have O1 := A1.own
    obtain ⟨b1, m1, ev1, -⟩ := own_some O1 hp1
    subst ev1
    repeat' (first
    | (with_reducible first | refine W_pushC fun K hK => ?_ | refine W_blockI ?_ | refine W_scopeI ?_ | refine W_labelI ?_ | refine W_skipI ?_ | refine W_retI ?_ | refine W_exitI ?_ | refine then_normalI ?_ | refine then_retI ?_ | refine then_exitI ?_ | refine inBlock_normalI ?_ | refine inBlock_retI ?_ | refine inBlock_exitI ?_ | refine inBlock_exitN (by decide) ?_)
    | ((with_reducible first | refine bodyQ_normal0 ?_ | refine bodyQ_normal1 ?_ | refine bodyQ_normal2 ?_ | refine bodyQ_normal3 ?_ | refine bodyQ_normal4 ?_ | refine bodyQ_ret0 ?_ | refine bodyQ_ret1 ?_ | refine bodyQ_ret2 ?_ | refine bodyQ_ret3 ?_ | refine bodyQ_ret4 ?_); (try simp only [EVB, Nat.reduceEqDiff, reduceIte]))
    | ((with_reducible show C _ _ _ _ _ _); first | ((refine h.preq _ _ bs1 m t n l _ O1 hrq (fun bp S2' ebp eS2 => ?_))))
    | (with_reducible refine Cont.use (by assumption) ?_)
    | (with_reducible first | refine hcA ?_ | refine hcB ?_)
    | ((with_reducible first | refine W_condG fun cA cB hcA hcB => ?_ | refine W_regionI ?_ | show O _ _ _ _ _ _ _ _ | show OK _ _ _ _ _ _ _ _ _ | show OKF _ _ _ _ _ _ _ _ _ _ | show OKT _ _ _ _ _ _ _ _ _ _ _ _ | show _ ∧ _ | show CG _ _ _ | show CB _ _ _); simp (disch := first | ((with_reducible show isStop _ = false); rfl) | ((with_reducible show isP _ = true); rfl) | ((with_reducible show (isStop _ || isP _) = false); rfl) | assumption | (simp only [GSB, Nat.reduceEqDiff, reduceIte]; done) | omega | (with_reducible decide) | (simp only [DSB, Go.Proofs.YtdmbgbennlnpcaaDoorAbs.oneC, Go.Proofs.YtdmbgbennlnpcaaDoorAbs.St.next_withLow, Nat.reduceAdd, Nat.reduceLeDiff] <;> omega) | fail) only [↓DN, ↓reduceIte, UP, CGB, Int.reduceEq, Int.reduceLT, Int.reduceLE, Nat.reduceEqDiff, Nat.reduceAdd, Nat.reduceMul, Nat.reduceSub, Int.reduceToNat, Nat.reduceLeDiff, PF, isStop, isP, goInt, beq_self_eq_true, decide_true, decide_false, Int.toNat_natCast, Int.natCast_zero, nn_eq, nn_ne, errW0, errW1, g12, g22, hE])
    | ((with_reducible refine CB_intro (fun ht => hcA ?_) (fun ht => hcB ?_)) <;> (first | (simp only [Bool.true_eq_false, Bool.false_eq_true] at ht; done) | ((try simp only [Bool.not_eq_true', Bool.not_eq_false'] at ht); (try simp only [ht]); (try simp only [HTN] at ht); (try (exfalso; omega)))))
    | ((with_reducible refine W_regionI ?_); simp only [List.append_eq, List.cons_append, List.nil_append])
    | (with_reducible refine O_splitG fun cA cB hcA hcB => ?_))
    have l2 := k2.1
    have kp : Kept S2 S2' none := by rw [eS2]; exact Kept.push _ none
    have np : S2'.next = S2.next + 1 := by rw [eS2]; rfl
    obtain ⟨S3, hS3⟩ : ∃ S3, (S2'.push ⟨[.string ⟨#[]⟩, .string ⟨#[]⟩, .int .i64 0, .slice none 0 0], 38, true, 0⟩).upd S2'.next ⟨[.string m, .string t, .int .i64 n, .slice (some ⟨bp, 0, some 0⟩) l.length (UNK + 2)], 38, true, 4⟩ = S3 := ⟨_, rfl⟩
    have g3 : S3.get S2'.next = some ⟨[.string m, .string t, .int .i64 n, .slice (some ⟨bp, 0, some 0⟩) l.length (UNK + 2)], 38, true, 4⟩ := by rw [← hS3]; exact St.get_upd_self _ _ _
    have k23 : Kept S2' S3 none := by rw [← hS3]; exact Kept.upd (Kept.push _ none) (Nat.le_refl _) _
    have k3 : Kept S2 S3 none := kp.trans k23
    have hFn1 : RF S3 (.slice (some ⟨bp, 0, some 0⟩) l.length (UNK + 2)) l := by
      have q : RF S2' (.slice (some ⟨bp, 0, some 0⟩) l.length (UNK + 2)) l := RF.their (by rw [ebp, eS2]; exact St.get_push_self _ _) (by omega)
      exact q.kept k23
    have g13 := k3.get (by omega) g12
    have g23 := k3.get (by omega) g22
    have l3 := k3.1
    have kk := k1.trans (k2.trans k3)
    repeat' (first
    | (with_reducible first | refine W_pushC fun K hK => ?_ | refine W_blockI ?_ | refine W_scopeI ?_ | refine W_labelI ?_ | refine W_skipI ?_ | refine W_retI ?_ | refine W_exitI ?_ | refine then_normalI ?_ | refine then_retI ?_ | refine then_exitI ?_ | refine inBlock_normalI ?_ | refine inBlock_retI ?_ | refine inBlock_exitI ?_ | refine inBlock_exitN (by decide) ?_)
    | ((with_reducible first | refine bodyQ_normal0 ?_ | refine bodyQ_normal1 ?_ | refine bodyQ_normal2 ?_ | refine bodyQ_normal3 ?_ | refine bodyQ_normal4 ?_ | refine bodyQ_ret0 ?_ | refine bodyQ_ret1 ?_ | refine bodyQ_ret2 ?_ | refine bodyQ_ret3 ?_ | refine bodyQ_ret4 ?_); (try simp only [EVB, Nat.reduceEqDiff, reduceIte]))
    | ((with_reducible show C _ _ _ _ _ _); first | ((refine fields_C h.toHP hFn1 (hFr.kept kk) hn hn ?_)))
    | (with_reducible refine Cont.use (by assumption) ?_)
    | (with_reducible first | refine hcA ?_ | refine hcB ?_)
    | ((with_reducible first | refine W_condG fun cA cB hcA hcB => ?_ | refine W_regionI ?_ | show O _ _ _ _ _ _ _ _ | show OK _ _ _ _ _ _ _ _ _ | show OKF _ _ _ _ _ _ _ _ _ _ | show OKT _ _ _ _ _ _ _ _ _ _ _ _ | show _ ∧ _ | show CG _ _ _ | show CB _ _ _); simp (disch := first | ((with_reducible show isStop _ = false); rfl) | ((with_reducible show isP _ = true); rfl) | ((with_reducible show (isStop _ || isP _) = false); rfl) | assumption | (simp only [GSB, Nat.reduceEqDiff, reduceIte]; done) | omega | (with_reducible decide) | (simp only [DSB, Go.Proofs.YtdmbgbennlnpcaaDoorAbs.oneC, Go.Proofs.YtdmbgbennlnpcaaDoorAbs.St.next_withLow, Nat.reduceAdd, Nat.reduceLeDiff] <;> omega) | fail) only [↓DN, ↓reduceIte, UP, CGB, Int.reduceEq, Int.reduceLT, Int.reduceLE, Nat.reduceEqDiff, Nat.reduceAdd, Nat.reduceMul, Nat.reduceSub, Int.reduceToNat, Nat.reduceLeDiff, PF, isStop, isP, goInt, beq_self_eq_true, decide_true, decide_false, Int.toNat_natCast, Int.natCast_zero, nn_eq, nn_ne, errW0, errW1, hS3, g3, g13, g23, hE, dl])
    | ((with_reducible refine CB_intro (fun ht => hcA ?_) (fun ht => hcB ?_)) <;> (first | (simp only [Bool.true_eq_false, Bool.false_eq_true] at ht; done) | ((try simp only [Bool.not_eq_true', Bool.not_eq_false'] at ht); (try simp only [ht]); (try simp only [HTN] at ht); (try (exfalso; omega)))))
    | ((with_reducible refine W_regionI ?_); simp only [List.append_eq, List.cons_append, List.nil_append])
    | (with_reducible refine O_splitG fun cA cB hcA hcB => ?_))
    have hPK := hPG.kept kk
    by_cases hE' : resE r' n' st l' = none
    · by_cases h5 : st ≤ 599
      · have d5 := decide_eq_true h5
        repeat' (first
    | (with_reducible first | refine W_pushC fun K hK => ?_ | refine W_blockI ?_ | refine W_scopeI ?_ | refine W_labelI ?_ | refine W_skipI ?_ | refine W_retI ?_ | refine W_exitI ?_ | refine then_normalI ?_ | refine then_retI ?_ | refine then_exitI ?_ | refine inBlock_normalI ?_ | refine inBlock_retI ?_ | refine inBlock_exitI ?_ | refine inBlock_exitN (by decide) ?_)
    | ((with_reducible first | refine bodyQ_normal0 ?_ | refine bodyQ_normal1 ?_ | refine bodyQ_normal2 ?_ | refine bodyQ_normal3 ?_ | refine bodyQ_normal4 ?_ | refine bodyQ_ret0 ?_ | refine bodyQ_ret1 ?_ | refine bodyQ_ret2 ?_ | refine bodyQ_ret3 ?_ | refine bodyQ_ret4 ?_); (try simp only [EVB, Nat.reduceEqDiff, reduceIte]))
    | ((with_reducible show C _ _ _ _ _ _); first | ((refine Response_C h.toHP hPK (hFr'.kept kk) hr' hn' hsz' (fun v2 S7 p3 p4 k7 => ?_))))
    | (with_reducible refine Cont.use (by assumption) ?_)
    | (with_reducible first | refine hcA ?_ | refine hcB ?_)
    | ((with_reducible first | refine W_condG fun cA cB hcA hcB => ?_ | refine W_regionI ?_ | show O _ _ _ _ _ _ _ _ | show OK _ _ _ _ _ _ _ _ _ | show OKF _ _ _ _ _ _ _ _ _ _ | show OKT _ _ _ _ _ _ _ _ _ _ _ _ | show _ ∧ _ | show CG _ _ _ | show CB _ _ _); simp (disch := first | ((with_reducible show isStop _ = false); rfl) | ((with_reducible show isP _ = true); rfl) | ((with_reducible show (isStop _ || isP _) = false); rfl) | assumption | (simp only [GSB, Nat.reduceEqDiff, reduceIte]; done) | omega | (with_reducible decide) | (simp only [DSB, Go.Proofs.YtdmbgbennlnpcaaDoorAbs.oneC, Go.Proofs.YtdmbgbennlnpcaaDoorAbs.St.next_withLow, Nat.reduceAdd, Nat.reduceLeDiff] <;> omega) | fail) only [↓DN, ↓reduceIte, UP, CGB, Int.reduceEq, Int.reduceLT, Int.reduceLE, Nat.reduceEqDiff, Nat.reduceAdd, Nat.reduceMul, Nat.reduceSub, Int.reduceToNat, Nat.reduceLeDiff, PF, isStop, isP, goInt, beq_self_eq_true, decide_true, decide_false, Int.toNat_natCast, Int.natCast_zero, nn_eq, nn_ne, errW0, errW1, g23, hE', d5])
    | ((with_reducible refine CB_intro (fun ht => hcA ?_) (fun ht => hcB ?_)) <;> (first | (simp only [Bool.true_eq_false, Bool.false_eq_true] at ht; done) | ((try simp only [Bool.not_eq_true', Bool.not_eq_false'] at ht); (try simp only [ht]); (try simp only [HTN] at ht); (try (exfalso; omega)))))
    | ((with_reducible refine W_regionI ?_); simp only [List.append_eq, List.cons_append, List.nil_append])
    | (with_reducible refine O_splitG fun cA cB hcA hcB => ?_))
        have A2 := p3 hE'
        have hrd := read_res hE' h5
        generalize hbs2 : headB (firstP r' (dig01 n') st) l' = bs2 at *
        have hp2 : 0 < bs2.length := by rw [← hbs2]; exact head_pos _ _
        have O2 := A2.own
        obtain ⟨b2, m2, ev2, -⟩ := own_some O2 hp2
        subst ev2
        have g7 := k7.get (by omega) g23
        repeat' (first
    | (with_reducible first | refine W_pushC fun K hK => ?_ | refine W_blockI ?_ | refine W_scopeI ?_ | refine W_labelI ?_ | refine W_skipI ?_ | refine W_retI ?_ | refine W_exitI ?_ | refine then_normalI ?_ | refine then_retI ?_ | refine then_exitI ?_ | refine inBlock_normalI ?_ | refine inBlock_retI ?_ | refine inBlock_exitI ?_ | refine inBlock_exitN (by decide) ?_)
    | ((with_reducible first | refine bodyQ_normal0 ?_ | refine bodyQ_normal1 ?_ | refine bodyQ_normal2 ?_ | refine bodyQ_normal3 ?_ | refine bodyQ_normal4 ?_ | refine bodyQ_ret0 ?_ | refine bodyQ_ret1 ?_ | refine bodyQ_ret2 ?_ | refine bodyQ_ret3 ?_ | refine bodyQ_ret4 ?_); (try simp only [EVB, Nat.reduceEqDiff, reduceIte]))
    | ((with_reducible show C _ _ _ _ _ _); first | ((refine h.pres _ _ bs2 st r' n' l' _ O2 hrd (fun bq S7' ebq eS7 => ?_))))
    | (with_reducible refine Cont.use (by assumption) ?_)
    | (with_reducible first | refine hcA ?_ | refine hcB ?_)
    | ((with_reducible first | refine W_condG fun cA cB hcA hcB => ?_ | refine W_regionI ?_ | show O _ _ _ _ _ _ _ _ | show OK _ _ _ _ _ _ _ _ _ | show OKF _ _ _ _ _ _ _ _ _ _ | show OKT _ _ _ _ _ _ _ _ _ _ _ _ | show _ ∧ _ | show CG _ _ _ | show CB _ _ _); simp (disch := first | ((with_reducible show isStop _ = false); rfl) | ((with_reducible show isP _ = true); rfl) | ((with_reducible show (isStop _ || isP _) = false); rfl) | assumption | (simp only [GSB, Nat.reduceEqDiff, reduceIte]; done) | omega | (with_reducible decide) | (simp only [DSB, Go.Proofs.YtdmbgbennlnpcaaDoorAbs.oneC, Go.Proofs.YtdmbgbennlnpcaaDoorAbs.St.next_withLow, Nat.reduceAdd, Nat.reduceLeDiff] <;> omega) | fail) only [↓DN, ↓reduceIte, UP, CGB, Int.reduceEq, Int.reduceLT, Int.reduceLE, Nat.reduceEqDiff, Nat.reduceAdd, Nat.reduceMul, Nat.reduceSub, Int.reduceToNat, Nat.reduceLeDiff, PF, isStop, isP, goInt, beq_self_eq_true, decide_true, decide_false, Int.toNat_natCast, Int.natCast_zero, nn_eq, nn_ne, errW0, errW1, g7, hE', d5])
    | ((with_reducible refine CB_intro (fun ht => hcA ?_) (fun ht => hcB ?_)) <;> (first | (simp only [Bool.true_eq_false, Bool.false_eq_true] at ht; done) | ((try simp only [Bool.not_eq_true', Bool.not_eq_false'] at ht); (try simp only [ht]); (try simp only [HTN] at ht); (try (exfalso; omega)))))
    | ((with_reducible refine W_regionI ?_); simp only [List.append_eq, List.cons_append, List.nil_append])
    | (with_reducible refine O_splitG fun cA cB hcA hcB => ?_))
        have l7 := k7.1
        have kq : Kept S7 S7' none := by rw [eS7]; exact Kept.push _ none
        have nq : S7'.next = S7.next + 1 := by rw [eS7]; rfl
        obtain ⟨S8, hS8⟩ : ∃ S8, (S7'.push ⟨[.int .i64 0, .string ⟨#[]⟩, .int .i64 0, .slice none 0 0], 24, true, 0⟩).upd S7'.next ⟨[.int .i64 st, .string r', .int .i64 n', .slice (some ⟨bq, 0, some 0⟩) l'.length (UNK + 2)], 24, true, 4⟩ = S8 := ⟨_, rfl⟩
        have g8 : S8.get S7'.next = some ⟨[.int .i64 st, .string r', .int .i64 n', .slice (some ⟨bq, 0, some 0⟩) l'.length (UNK + 2)], 24, true, 4⟩ := by rw [← hS8]; exact St.get_upd_self _ _ _
        have k78 : Kept S7' S8 none := by rw [← hS8]; exact Kept.upd (Kept.push _ none) (Nat.le_refl _) _
        have k8 : Kept S7 S8 none := kq.trans k78
        have hFn : RF S8 (.slice (some ⟨bq, 0, some 0⟩) l'.length (UNK + 2)) l' := by
          have q : RF S7' (.slice (some ⟨bq, 0, some 0⟩) l'.length (UNK + 2)) l' := RF.their (by rw [ebq, eS7]; exact St.get_push_self _ _) (by omega)
          exact q.kept k78
        have g78 := k8.get (by omega) g7
        have hP8 := hPK.kept (k7.trans k8)
        repeat' (first
    | (with_reducible first | refine W_pushC fun K hK => ?_ | refine W_blockI ?_ | refine W_scopeI ?_ | refine W_labelI ?_ | refine W_skipI ?_ | refine W_retI ?_ | refine W_exitI ?_ | refine then_normalI ?_ | refine then_retI ?_ | refine then_exitI ?_ | refine inBlock_normalI ?_ | refine inBlock_retI ?_ | refine inBlock_exitI ?_ | refine inBlock_exitN (by decide) ?_)
    | ((with_reducible first | refine bodyQ_normal0 ?_ | refine bodyQ_normal1 ?_ | refine bodyQ_normal2 ?_ | refine bodyQ_normal3 ?_ | refine bodyQ_normal4 ?_ | refine bodyQ_ret0 ?_ | refine bodyQ_ret1 ?_ | refine bodyQ_ret2 ?_ | refine bodyQ_ret3 ?_ | refine bodyQ_ret4 ?_); (try simp only [EVB, Nat.reduceEqDiff, reduceIte]))
    | ((with_reducible show C _ _ _ _ _ _); first | ((refine fields_C h.toHP hFn (hFr'.kept (kk.trans (k7.trans k8))) hn' hn' ?_)) | (refine h.works _ _ hP8 ?_))
    | (with_reducible refine Cont.use (by assumption) ?_)
    | (with_reducible first | refine hcA ?_ | refine hcB ?_)
    | ((with_reducible first | refine W_condG fun cA cB hcA hcB => ?_ | refine W_regionI ?_ | show O _ _ _ _ _ _ _ _ | show OK _ _ _ _ _ _ _ _ _ | show OKF _ _ _ _ _ _ _ _ _ _ | show OKT _ _ _ _ _ _ _ _ _ _ _ _ | show _ ∧ _ | show CG _ _ _ | show CB _ _ _); simp (disch := first | ((with_reducible show isStop _ = false); rfl) | ((with_reducible show isP _ = true); rfl) | ((with_reducible show (isStop _ || isP _) = false); rfl) | assumption | (simp only [GSB, Nat.reduceEqDiff, reduceIte]; done) | omega | (with_reducible decide) | (simp only [DSB, Go.Proofs.YtdmbgbennlnpcaaDoorAbs.oneC, Go.Proofs.YtdmbgbennlnpcaaDoorAbs.St.next_withLow, Nat.reduceAdd, Nat.reduceLeDiff] <;> omega) | fail) only [↓DN, ↓reduceIte, UP, CGB, Int.reduceEq, Int.reduceLT, Int.reduceLE, Nat.reduceEqDiff, Nat.reduceAdd, Nat.reduceMul, Nat.reduceSub, Int.reduceToNat, Nat.reduceLeDiff, PF, isStop, isP, goInt, beq_self_eq_true, decide_true, decide_false, Int.toNat_natCast, Int.natCast_zero, nn_eq, nn_ne, errW0, errW1, hS8, g8, g78, hE', d5, dl'])
    | ((with_reducible refine CB_intro (fun ht => hcA ?_) (fun ht => hcB ?_)) <;> (first | (simp only [Bool.true_eq_false, Bool.false_eq_true] at ht; done) | ((try simp only [Bool.not_eq_true', Bool.not_eq_false'] at ht); (try simp only [ht]); (try simp only [HTN] at ht); (try (exfalso; omega)))))
    | ((with_reducible refine W_regionI ?_); simp only [List.append_eq, List.cons_append, List.nil_append])
    | (with_reducible refine O_splitG fun cA cB hcA hcB => ?_)
    | (exact hQ _))
      · have d5 := decide_eq_false h5
        repeat' (first
    | (with_reducible first | refine W_pushC fun K hK => ?_ | refine W_blockI ?_ | refine W_scopeI ?_ | refine W_labelI ?_ | refine W_skipI ?_ | refine W_retI ?_ | refine W_exitI ?_ | refine then_normalI ?_ | refine then_retI ?_ | refine then_exitI ?_ | refine inBlock_normalI ?_ | refine inBlock_retI ?_ | refine inBlock_exitI ?_ | refine inBlock_exitN (by decide) ?_)
    | ((with_reducible first | refine bodyQ_normal0 ?_ | refine bodyQ_normal1 ?_ | refine bodyQ_normal2 ?_ | refine bodyQ_normal3 ?_ | refine bodyQ_normal4 ?_ | refine bodyQ_ret0 ?_ | refine bodyQ_ret1 ?_ | refine bodyQ_ret2 ?_ | refine bodyQ_ret3 ?_ | refine bodyQ_ret4 ?_); (try simp only [EVB, Nat.reduceEqDiff, reduceIte]))
    | ((with_reducible show C _ _ _ _ _ _); first | ((refine Response_C h.toHP hPK (hFr'.kept kk) hr' hn' hsz' (fun v2 S7 p3 p4 k7 => ?_))))
    | (with_reducible refine Cont.use (by assumption) ?_)
    | (with_reducible first | refine hcA ?_ | refine hcB ?_)
    | ((with_reducible first | refine W_condG fun cA cB hcA hcB => ?_ | refine W_regionI ?_ | show O _ _ _ _ _ _ _ _ | show OK _ _ _ _ _ _ _ _ _ | show OKF _ _ _ _ _ _ _ _ _ _ | show OKT _ _ _ _ _ _ _ _ _ _ _ _ | show _ ∧ _ | show CG _ _ _ | show CB _ _ _); simp (disch := first | ((with_reducible show isStop _ = false); rfl) | ((with_reducible show isP _ = true); rfl) | ((with_reducible show (isStop _ || isP _) = false); rfl) | assumption | (simp only [GSB, Nat.reduceEqDiff, reduceIte]; done) | omega | (with_reducible decide) | (simp only [DSB, Go.Proofs.YtdmbgbennlnpcaaDoorAbs.oneC, Go.Proofs.YtdmbgbennlnpcaaDoorAbs.St.next_withLow, Nat.reduceAdd, Nat.reduceLeDiff] <;> omega) | fail) only [↓DN, ↓reduceIte, UP, CGB, Int.reduceEq, Int.reduceLT, Int.reduceLE, Nat.reduceEqDiff, Nat.reduceAdd, Nat.reduceMul, Nat.reduceSub, Int.reduceToNat, Nat.reduceLeDiff, PF, isStop, isP, goInt, beq_self_eq_true, decide_true, decide_false, Int.toNat_natCast, Int.natCast_zero, nn_eq, nn_ne, errW0, errW1, g23, hE', d5])
    | ((with_reducible refine CB_intro (fun ht => hcA ?_) (fun ht => hcB ?_)) <;> (first | (simp only [Bool.true_eq_false, Bool.false_eq_true] at ht; done) | ((try simp only [Bool.not_eq_true', Bool.not_eq_false'] at ht); (try simp only [ht]); (try simp only [HTN] at ht); (try (exfalso; omega)))))
    | ((with_reducible refine W_regionI ?_); simp only [List.append_eq, List.cons_append, List.nil_append])
    | (with_reducible refine O_splitG fun cA cB hcA hcB => ?_))
        have g7 := k7.get (by omega) g23
        have hP7 := hPK.kept k7
        repeat' (first
    | (with_reducible first | refine W_pushC fun K hK => ?_ | refine W_blockI ?_ | refine W_scopeI ?_ | refine W_labelI ?_ | refine W_skipI ?_ | refine W_retI ?_ | refine W_exitI ?_ | refine then_normalI ?_ | refine then_retI ?_ | refine then_exitI ?_ | refine inBlock_normalI ?_ | refine inBlock_retI ?_ | refine inBlock_exitI ?_ | refine inBlock_exitN (by decide) ?_)
    | ((with_reducible first | refine bodyQ_normal0 ?_ | refine bodyQ_normal1 ?_ | refine bodyQ_normal2 ?_ | refine bodyQ_normal3 ?_ | refine bodyQ_normal4 ?_ | refine bodyQ_ret0 ?_ | refine bodyQ_ret1 ?_ | refine bodyQ_ret2 ?_ | refine bodyQ_ret3 ?_ | refine bodyQ_ret4 ?_); (try simp only [EVB, Nat.reduceEqDiff, reduceIte]))
    | ((with_reducible show C _ _ _ _ _ _); first | (refine h.works _ _ hP7 ?_))
    | (with_reducible refine Cont.use (by assumption) ?_)
    | (with_reducible first | refine hcA ?_ | refine hcB ?_)
    | ((with_reducible first | refine W_condG fun cA cB hcA hcB => ?_ | refine W_regionI ?_ | show O _ _ _ _ _ _ _ _ | show OK _ _ _ _ _ _ _ _ _ | show OKF _ _ _ _ _ _ _ _ _ _ | show OKT _ _ _ _ _ _ _ _ _ _ _ _ | show _ ∧ _ | show CG _ _ _ | show CB _ _ _); simp (disch := first | ((with_reducible show isStop _ = false); rfl) | ((with_reducible show isP _ = true); rfl) | ((with_reducible show (isStop _ || isP _) = false); rfl) | assumption | (simp only [GSB, Nat.reduceEqDiff, reduceIte]; done) | omega | (with_reducible decide) | (simp only [DSB, Go.Proofs.YtdmbgbennlnpcaaDoorAbs.oneC, Go.Proofs.YtdmbgbennlnpcaaDoorAbs.St.next_withLow, Nat.reduceAdd, Nat.reduceLeDiff] <;> omega) | fail) only [↓DN, ↓reduceIte, UP, CGB, Int.reduceEq, Int.reduceLT, Int.reduceLE, Nat.reduceEqDiff, Nat.reduceAdd, Nat.reduceMul, Nat.reduceSub, Int.reduceToNat, Nat.reduceLeDiff, PF, isStop, isP, goInt, beq_self_eq_true, decide_true, decide_false, Int.toNat_natCast, Int.natCast_zero, nn_eq, nn_ne, errW0, errW1, g7, hE', d5])
    | ((with_reducible refine CB_intro (fun ht => hcA ?_) (fun ht => hcB ?_)) <;> (first | (simp only [Bool.true_eq_false, Bool.false_eq_true] at ht; done) | ((try simp only [Bool.not_eq_true', Bool.not_eq_false'] at ht); (try simp only [ht]); (try simp only [HTN] at ht); (try (exfalso; omega)))))
    | ((with_reducible refine W_regionI ?_); simp only [List.append_eq, List.cons_append, List.nil_append])
    | (with_reducible refine O_splitG fun cA cB hcA hcB => ?_)
    | (exact hQ _))
    · obtain ⟨c', hc'⟩ := Option.ne_none_iff_exists'.1 hE'
      repeat' (first
    | (with_reducible first | refine W_pushC fun K hK => ?_ | refine W_blockI ?_ | refine W_scopeI ?_ | refine W_labelI ?_ | refine W_skipI ?_ | refine W_retI ?_ | refine W_exitI ?_ | refine then_normalI ?_ | refine then_retI ?_ | refine then_exitI ?_ | refine inBlock_normalI ?_ | refine inBlock_retI ?_ | refine inBlock_exitI ?_ | refine inBlock_exitN (by decide) ?_)
    | ((with_reducible first | refine bodyQ_normal0 ?_ | refine bodyQ_normal1 ?_ | refine bodyQ_normal2 ?_ | refine bodyQ_normal3 ?_ | refine bodyQ_normal4 ?_ | refine bodyQ_ret0 ?_ | refine bodyQ_ret1 ?_ | refine bodyQ_ret2 ?_ | refine bodyQ_ret3 ?_ | refine bodyQ_ret4 ?_); (try simp only [EVB, Nat.reduceEqDiff, reduceIte]))
    | ((with_reducible show C _ _ _ _ _ _); first | ((refine Response_C h.toHP hPK (hFr'.kept kk) hr' hn' hsz' (fun v2 S7 p3 p4 k7 => ?_))))
    | (with_reducible refine Cont.use (by assumption) ?_)
    | (with_reducible first | refine hcA ?_ | refine hcB ?_)
    | ((with_reducible first | refine W_condG fun cA cB hcA hcB => ?_ | refine W_regionI ?_ | show O _ _ _ _ _ _ _ _ | show OK _ _ _ _ _ _ _ _ _ | show OKF _ _ _ _ _ _ _ _ _ _ | show OKT _ _ _ _ _ _ _ _ _ _ _ _ | show _ ∧ _ | show CG _ _ _ | show CB _ _ _); simp (disch := first | ((with_reducible show isStop _ = false); rfl) | ((with_reducible show isP _ = true); rfl) | ((with_reducible show (isStop _ || isP _) = false); rfl) | assumption | (simp only [GSB, Nat.reduceEqDiff, reduceIte]; done) | omega | (with_reducible decide) | (simp only [DSB, Go.Proofs.YtdmbgbennlnpcaaDoorAbs.oneC, Go.Proofs.YtdmbgbennlnpcaaDoorAbs.St.next_withLow, Nat.reduceAdd, Nat.reduceLeDiff] <;> omega) | fail) only [↓DN, ↓reduceIte, UP, CGB, Int.reduceEq, Int.reduceLT, Int.reduceLE, Nat.reduceEqDiff, Nat.reduceAdd, Nat.reduceMul, Nat.reduceSub, Int.reduceToNat, Nat.reduceLeDiff, PF, isStop, isP, goInt, beq_self_eq_true, decide_true, decide_false, Int.toNat_natCast, Int.natCast_zero, nn_eq, nn_ne, errW0, errW1, g23, hc', in_eq])
    | ((with_reducible refine CB_intro (fun ht => hcA ?_) (fun ht => hcB ?_)) <;> (first | (simp only [Bool.true_eq_false, Bool.false_eq_true] at ht; done) | ((try simp only [Bool.not_eq_true', Bool.not_eq_false'] at ht); (try simp only [ht]); (try simp only [HTN] at ht); (try (exfalso; omega)))))
    | ((with_reducible refine W_regionI ?_); simp only [List.append_eq, List.cons_append, List.nil_append])
    | (with_reducible refine O_splitG fun cA cB hcA hcB => ?_))
      have g7 := k7.get (by omega) g23
      have hP7 := hPK.kept k7
      repeat' (first
    | (with_reducible first | refine W_pushC fun K hK => ?_ | refine W_blockI ?_ | refine W_scopeI ?_ | refine W_labelI ?_ | refine W_skipI ?_ | refine W_retI ?_ | refine W_exitI ?_ | refine then_normalI ?_ | refine then_retI ?_ | refine then_exitI ?_ | refine inBlock_normalI ?_ | refine inBlock_retI ?_ | refine inBlock_exitI ?_ | refine inBlock_exitN (by decide) ?_)
    | ((with_reducible first | refine bodyQ_normal0 ?_ | refine bodyQ_normal1 ?_ | refine bodyQ_normal2 ?_ | refine bodyQ_normal3 ?_ | refine bodyQ_normal4 ?_ | refine bodyQ_ret0 ?_ | refine bodyQ_ret1 ?_ | refine bodyQ_ret2 ?_ | refine bodyQ_ret3 ?_ | refine bodyQ_ret4 ?_); (try simp only [EVB, Nat.reduceEqDiff, reduceIte]))
    | ((with_reducible show C _ _ _ _ _ _); first | (refine h.works _ _ hP7 ?_))
    | (with_reducible refine Cont.use (by assumption) ?_)
    | (with_reducible first | refine hcA ?_ | refine hcB ?_)
    | ((with_reducible first | refine W_condG fun cA cB hcA hcB => ?_ | refine W_regionI ?_ | show O _ _ _ _ _ _ _ _ | show OK _ _ _ _ _ _ _ _ _ | show OKF _ _ _ _ _ _ _ _ _ _ | show OKT _ _ _ _ _ _ _ _ _ _ _ _ | show _ ∧ _ | show CG _ _ _ | show CB _ _ _); simp (disch := first | ((with_reducible show isStop _ = false); rfl) | ((with_reducible show isP _ = true); rfl) | ((with_reducible show (isStop _ || isP _) = false); rfl) | assumption | (simp only [GSB, Nat.reduceEqDiff, reduceIte]; done) | omega | (with_reducible decide) | (simp only [DSB, Go.Proofs.YtdmbgbennlnpcaaDoorAbs.oneC, Go.Proofs.YtdmbgbennlnpcaaDoorAbs.St.next_withLow, Nat.reduceAdd, Nat.reduceLeDiff] <;> omega) | fail) only [↓DN, ↓reduceIte, UP, CGB, Int.reduceEq, Int.reduceLT, Int.reduceLE, Nat.reduceEqDiff, Nat.reduceAdd, Nat.reduceMul, Nat.reduceSub, Int.reduceToNat, Nat.reduceLeDiff, PF, isStop, isP, goInt, beq_self_eq_true, decide_true, decide_false, Int.toNat_natCast, Int.natCast_zero, nn_eq, nn_ne, errW0, errW1, g7, hc', in_eq])
    | ((with_reducible refine CB_intro (fun ht => hcA ?_) (fun ht => hcB ?_)) <;> (first | (simp only [Bool.true_eq_false, Bool.false_eq_true] at ht; done) | ((try simp only [Bool.not_eq_true', Bool.not_eq_false'] at ht); (try simp only [ht]); (try simp only [HTN] at ht); (try (exfalso; omega)))))
    | ((with_reducible refine W_regionI ?_); simp only [List.append_eq, List.cons_append, List.nil_append])
    | (with_reducible refine O_splitG fun cA cB hcA hcB => ?_)
    | (exact hQ _))
  · obtain ⟨c, hc⟩ := Option.ne_none_iff_exists'.1 hE
    repeat' (first
    | (with_reducible first | refine W_pushC fun K hK => ?_ | refine W_blockI ?_ | refine W_scopeI ?_ | refine W_labelI ?_ | refine W_skipI ?_ | refine W_retI ?_ | refine W_exitI ?_ | refine then_normalI ?_ | refine then_retI ?_ | refine then_exitI ?_ | refine inBlock_normalI ?_ | refine inBlock_retI ?_ | refine inBlock_exitI ?_ | refine inBlock_exitN (by decide) ?_)
    | ((with_reducible first | refine bodyQ_normal0 ?_ | refine bodyQ_normal1 ?_ | refine bodyQ_normal2 ?_ | refine bodyQ_normal3 ?_ | refine bodyQ_normal4 ?_ | refine bodyQ_ret0 ?_ | refine bodyQ_ret1 ?_ | refine bodyQ_ret2 ?_ | refine bodyQ_ret3 ?_ | refine bodyQ_ret4 ?_); (try simp only [EVB, Nat.reduceEqDiff, reduceIte]))
    | ((with_reducible show C _ _ _ _ _ _); first | ((refine Request_C h.toHP (hFr.kept k1) hm ht hn hsz (fun v1 S2 p1 p2 k2 => ?_))))
    | (with_reducible refine Cont.use (by assumption) ?_)
    | (with_reducible first | refine hcA ?_ | refine hcB ?_)
    | ((with_reducible first | refine W_condG fun cA cB hcA hcB => ?_ | refine W_regionI ?_ | show O _ _ _ _ _ _ _ _ | show OK _ _ _ _ _ _ _ _ _ | show OKF _ _ _ _ _ _ _ _ _ _ | show OKT _ _ _ _ _ _ _ _ _ _ _ _ | show _ ∧ _ | show CG _ _ _ | show CB _ _ _); simp (disch := first | ((with_reducible show isStop _ = false); rfl) | ((with_reducible show isP _ = true); rfl) | ((with_reducible show (isStop _ || isP _) = false); rfl) | assumption | (simp only [GSB, Nat.reduceEqDiff, reduceIte]; done) | omega | (with_reducible decide) | (simp only [DSB, Go.Proofs.YtdmbgbennlnpcaaDoorAbs.oneC, Go.Proofs.YtdmbgbennlnpcaaDoorAbs.St.next_withLow, Nat.reduceAdd, Nat.reduceLeDiff] <;> omega) | fail) only [↓DN, ↓reduceIte, UP, CGB, Int.reduceEq, Int.reduceLT, Int.reduceLE, Nat.reduceEqDiff, Nat.reduceAdd, Nat.reduceMul, Nat.reduceSub, Int.reduceToNat, Nat.reduceLeDiff, PF, isStop, isP, goInt, beq_self_eq_true, decide_true, decide_false, Int.toNat_natCast, Int.natCast_zero, nn_eq, nn_ne, errW0, errW1, hS1, g1, g2, hc, in_eq])
    | ((with_reducible refine CB_intro (fun ht => hcA ?_) (fun ht => hcB ?_)) <;> (first | (simp only [Bool.true_eq_false, Bool.false_eq_true] at ht; done) | ((try simp only [Bool.not_eq_true', Bool.not_eq_false'] at ht); (try simp only [ht]); (try simp only [HTN] at ht); (try (exfalso; omega)))))
    | ((with_reducible refine W_regionI ?_); simp only [List.append_eq, List.cons_append, List.nil_append])
    | (with_reducible refine O_splitG fun cA cB hcA hcB => ?_))
    have g22 := k2.get (by omega) g2
    have l2 := k2.1
    have kk := k1.trans k2
    repeat' (first
    | (with_reducible first | refine W_pushC fun K hK => ?_ | refine W_blockI ?_ | refine W_scopeI ?_ | refine W_labelI ?_ | refine W_skipI ?_ | refine W_retI ?_ | refine W_exitI ?_ | refine then_normalI ?_ | refine then_retI ?_ | refine then_exitI ?_ | refine inBlock_normalI ?_ | refine inBlock_retI ?_ | refine inBlock_exitI ?_ | refine inBlock_exitN (by decide) ?_)
    | ((with_reducible first | refine bodyQ_normal0 ?_ | refine bodyQ_normal1 ?_ | refine bodyQ_normal2 ?_ | refine bodyQ_normal3 ?_ | refine bodyQ_normal4 ?_ | refine bodyQ_ret0 ?_ | refine bodyQ_ret1 ?_ | refine bodyQ_ret2 ?_ | refine bodyQ_ret3 ?_ | refine bodyQ_ret4 ?_); (try simp only [EVB, Nat.reduceEqDiff, reduceIte]))
    | (with_reducible refine Cont.use (by assumption) ?_)
    | (with_reducible first | refine hcA ?_ | refine hcB ?_)
    | ((with_reducible first | refine W_condG fun cA cB hcA hcB => ?_ | refine W_regionI ?_ | show O _ _ _ _ _ _ _ _ | show OK _ _ _ _ _ _ _ _ _ | show OKF _ _ _ _ _ _ _ _ _ _ | show OKT _ _ _ _ _ _ _ _ _ _ _ _ | show _ ∧ _ | show CG _ _ _ | show CB _ _ _); simp (disch := first | ((with_reducible show isStop _ = false); rfl) | ((with_reducible show isP _ = true); rfl) | ((with_reducible show (isStop _ || isP _) = false); rfl) | assumption | (simp only [GSB, Nat.reduceEqDiff, reduceIte]; done) | omega | (with_reducible decide) | (simp only [DSB, Go.Proofs.YtdmbgbennlnpcaaDoorAbs.oneC, Go.Proofs.YtdmbgbennlnpcaaDoorAbs.St.next_withLow, Nat.reduceAdd, Nat.reduceLeDiff] <;> omega) | fail) only [↓DN, ↓reduceIte, UP, CGB, Int.reduceEq, Int.reduceLT, Int.reduceLE, Nat.reduceEqDiff, Nat.reduceAdd, Nat.reduceMul, Nat.reduceSub, Int.reduceToNat, Nat.reduceLeDiff, PF, isStop, isP, goInt, beq_self_eq_true, decide_true, decide_false, Int.toNat_natCast, Int.natCast_zero, nn_eq, nn_ne, errW0, errW1, g22, hc, in_eq])
    | ((with_reducible refine CB_intro (fun ht => hcA ?_) (fun ht => hcB ?_)) <;> (first | (simp only [Bool.true_eq_false, Bool.false_eq_true] at ht; done) | ((try simp only [Bool.not_eq_true', Bool.not_eq_false'] at ht); (try simp only [ht]); (try simp only [HTN] at ht); (try (exfalso; omega)))))
    | ((with_reducible refine W_regionI ?_); simp only [List.append_eq, List.cons_append, List.nil_append])
    | (with_reducible refine O_splitG fun cA cB hcA hcB => ?_))
    have hPK := hPG.kept kk
    by_cases hE' : resE r' n' st l' = none
    · by_cases h5 : st ≤ 599
      · have d5 := decide_eq_true h5
        repeat' (first
    | (with_reducible first | refine W_pushC fun K hK => ?_ | refine W_blockI ?_ | refine W_scopeI ?_ | refine W_labelI ?_ | refine W_skipI ?_ | refine W_retI ?_ | refine W_exitI ?_ | refine then_normalI ?_ | refine then_retI ?_ | refine then_exitI ?_ | refine inBlock_normalI ?_ | refine inBlock_retI ?_ | refine inBlock_exitI ?_ | refine inBlock_exitN (by decide) ?_)
    | ((with_reducible first | refine bodyQ_normal0 ?_ | refine bodyQ_normal1 ?_ | refine bodyQ_normal2 ?_ | refine bodyQ_normal3 ?_ | refine bodyQ_normal4 ?_ | refine bodyQ_ret0 ?_ | refine bodyQ_ret1 ?_ | refine bodyQ_ret2 ?_ | refine bodyQ_ret3 ?_ | refine bodyQ_ret4 ?_); (try simp only [EVB, Nat.reduceEqDiff, reduceIte]))
    | ((with_reducible show C _ _ _ _ _ _); first | ((refine Response_C h.toHP hPK (hFr'.kept kk) hr' hn' hsz' (fun v2 S7 p3 p4 k7 => ?_))))
    | (with_reducible refine Cont.use (by assumption) ?_)
    | (with_reducible first | refine hcA ?_ | refine hcB ?_)
    | ((with_reducible first | refine W_condG fun cA cB hcA hcB => ?_ | refine W_regionI ?_ | show O _ _ _ _ _ _ _ _ | show OK _ _ _ _ _ _ _ _ _ | show OKF _ _ _ _ _ _ _ _ _ _ | show OKT _ _ _ _ _ _ _ _ _ _ _ _ | show _ ∧ _ | show CG _ _ _ | show CB _ _ _); simp (disch := first | ((with_reducible show isStop _ = false); rfl) | ((with_reducible show isP _ = true); rfl) | ((with_reducible show (isStop _ || isP _) = false); rfl) | assumption | (simp only [GSB, Nat.reduceEqDiff, reduceIte]; done) | omega | (with_reducible decide) | (simp only [DSB, Go.Proofs.YtdmbgbennlnpcaaDoorAbs.oneC, Go.Proofs.YtdmbgbennlnpcaaDoorAbs.St.next_withLow, Nat.reduceAdd, Nat.reduceLeDiff] <;> omega) | fail) only [↓DN, ↓reduceIte, UP, CGB, Int.reduceEq, Int.reduceLT, Int.reduceLE, Nat.reduceEqDiff, Nat.reduceAdd, Nat.reduceMul, Nat.reduceSub, Int.reduceToNat, Nat.reduceLeDiff, PF, isStop, isP, goInt, beq_self_eq_true, decide_true, decide_false, Int.toNat_natCast, Int.natCast_zero, nn_eq, nn_ne, errW0, errW1, g22, hE', d5])
    | ((with_reducible refine CB_intro (fun ht => hcA ?_) (fun ht => hcB ?_)) <;> (first | (simp only [Bool.true_eq_false, Bool.false_eq_true] at ht; done) | ((try simp only [Bool.not_eq_true', Bool.not_eq_false'] at ht); (try simp only [ht]); (try simp only [HTN] at ht); (try (exfalso; omega)))))
    | ((with_reducible refine W_regionI ?_); simp only [List.append_eq, List.cons_append, List.nil_append])
    | (with_reducible refine O_splitG fun cA cB hcA hcB => ?_))
        have A2 := p3 hE'
        have hrd := read_res hE' h5
        generalize hbs2 : headB (firstP r' (dig01 n') st) l' = bs2 at *
        have hp2 : 0 < bs2.length := by rw [← hbs2]; exact head_pos _ _
        have O2 := A2.own
        obtain ⟨b2, m2, ev2, -⟩ := own_some O2 hp2
        subst ev2
        have g7 := k7.get (by omega) g22
        repeat' (first
    | (with_reducible first | refine W_pushC fun K hK => ?_ | refine W_blockI ?_ | refine W_scopeI ?_ | refine W_labelI ?_ | refine W_skipI ?_ | refine W_retI ?_ | refine W_exitI ?_ | refine then_normalI ?_ | refine then_retI ?_ | refine then_exitI ?_ | refine inBlock_normalI ?_ | refine inBlock_retI ?_ | refine inBlock_exitI ?_ | refine inBlock_exitN (by decide) ?_)
    | ((with_reducible first | refine bodyQ_normal0 ?_ | refine bodyQ_normal1 ?_ | refine bodyQ_normal2 ?_ | refine bodyQ_normal3 ?_ | refine bodyQ_normal4 ?_ | refine bodyQ_ret0 ?_ | refine bodyQ_ret1 ?_ | refine bodyQ_ret2 ?_ | refine bodyQ_ret3 ?_ | refine bodyQ_ret4 ?_); (try simp only [EVB, Nat.reduceEqDiff, reduceIte]))
    | ((with_reducible show C _ _ _ _ _ _); first | ((refine h.pres _ _ bs2 st r' n' l' _ O2 hrd (fun bq S7' ebq eS7 => ?_))))
    | (with_reducible refine Cont.use (by assumption) ?_)
    | (with_reducible first | refine hcA ?_ | refine hcB ?_)
    | ((with_reducible first | refine W_condG fun cA cB hcA hcB => ?_ | refine W_regionI ?_ | show O _ _ _ _ _ _ _ _ | show OK _ _ _ _ _ _ _ _ _ | show OKF _ _ _ _ _ _ _ _ _ _ | show OKT _ _ _ _ _ _ _ _ _ _ _ _ | show _ ∧ _ | show CG _ _ _ | show CB _ _ _); simp (disch := first | ((with_reducible show isStop _ = false); rfl) | ((with_reducible show isP _ = true); rfl) | ((with_reducible show (isStop _ || isP _) = false); rfl) | assumption | (simp only [GSB, Nat.reduceEqDiff, reduceIte]; done) | omega | (with_reducible decide) | (simp only [DSB, Go.Proofs.YtdmbgbennlnpcaaDoorAbs.oneC, Go.Proofs.YtdmbgbennlnpcaaDoorAbs.St.next_withLow, Nat.reduceAdd, Nat.reduceLeDiff] <;> omega) | fail) only [↓DN, ↓reduceIte, UP, CGB, Int.reduceEq, Int.reduceLT, Int.reduceLE, Nat.reduceEqDiff, Nat.reduceAdd, Nat.reduceMul, Nat.reduceSub, Int.reduceToNat, Nat.reduceLeDiff, PF, isStop, isP, goInt, beq_self_eq_true, decide_true, decide_false, Int.toNat_natCast, Int.natCast_zero, nn_eq, nn_ne, errW0, errW1, g7, hE', d5])
    | ((with_reducible refine CB_intro (fun ht => hcA ?_) (fun ht => hcB ?_)) <;> (first | (simp only [Bool.true_eq_false, Bool.false_eq_true] at ht; done) | ((try simp only [Bool.not_eq_true', Bool.not_eq_false'] at ht); (try simp only [ht]); (try simp only [HTN] at ht); (try (exfalso; omega)))))
    | ((with_reducible refine W_regionI ?_); simp only [List.append_eq, List.cons_append, List.nil_append])
    | (with_reducible refine O_splitG fun cA cB hcA hcB => ?_))
        have l7 := k7.1
        have kq : Kept S7 S7' none := by rw [eS7]; exact Kept.push _ none
        have nq : S7'.next = S7.next + 1 := by rw [eS7]; rfl
        obtain ⟨S8, hS8⟩ : ∃ S8, (S7'.push ⟨[.int .i64 0, .string ⟨#[]⟩, .int .i64 0, .slice none 0 0], 24, true, 0⟩).upd S7'.next ⟨[.int .i64 st, .string r', .int .i64 n', .slice (some ⟨bq, 0, some 0⟩) l'.length (UNK + 2)], 24, true, 4⟩ = S8 := ⟨_, rfl⟩
        have g8 : S8.get S7'.next = some ⟨[.int .i64 st, .string r', .int .i64 n', .slice (some ⟨bq, 0, some 0⟩) l'.length (UNK + 2)], 24, true, 4⟩ := by rw [← hS8]; exact St.get_upd_self _ _ _
        have k78 : Kept S7' S8 none := by rw [← hS8]; exact Kept.upd (Kept.push _ none) (Nat.le_refl _) _
        have k8 : Kept S7 S8 none := kq.trans k78
        have hFn : RF S8 (.slice (some ⟨bq, 0, some 0⟩) l'.length (UNK + 2)) l' := by
          have q : RF S7' (.slice (some ⟨bq, 0, some 0⟩) l'.length (UNK + 2)) l' := RF.their (by rw [ebq, eS7]; exact St.get_push_self _ _) (by omega)
          exact q.kept k78
        have g78 := k8.get (by omega) g7
        have hP8 := hPK.kept (k7.trans k8)
        repeat' (first
    | (with_reducible first | refine W_pushC fun K hK => ?_ | refine W_blockI ?_ | refine W_scopeI ?_ | refine W_labelI ?_ | refine W_skipI ?_ | refine W_retI ?_ | refine W_exitI ?_ | refine then_normalI ?_ | refine then_retI ?_ | refine then_exitI ?_ | refine inBlock_normalI ?_ | refine inBlock_retI ?_ | refine inBlock_exitI ?_ | refine inBlock_exitN (by decide) ?_)
    | ((with_reducible first | refine bodyQ_normal0 ?_ | refine bodyQ_normal1 ?_ | refine bodyQ_normal2 ?_ | refine bodyQ_normal3 ?_ | refine bodyQ_normal4 ?_ | refine bodyQ_ret0 ?_ | refine bodyQ_ret1 ?_ | refine bodyQ_ret2 ?_ | refine bodyQ_ret3 ?_ | refine bodyQ_ret4 ?_); (try simp only [EVB, Nat.reduceEqDiff, reduceIte]))
    | ((with_reducible show C _ _ _ _ _ _); first | ((refine fields_C h.toHP hFn (hFr'.kept (kk.trans (k7.trans k8))) hn' hn' ?_)) | (refine h.works _ _ hP8 ?_))
    | (with_reducible refine Cont.use (by assumption) ?_)
    | (with_reducible first | refine hcA ?_ | refine hcB ?_)
    | ((with_reducible first | refine W_condG fun cA cB hcA hcB => ?_ | refine W_regionI ?_ | show O _ _ _ _ _ _ _ _ | show OK _ _ _ _ _ _ _ _ _ | show OKF _ _ _ _ _ _ _ _ _ _ | show OKT _ _ _ _ _ _ _ _ _ _ _ _ | show _ ∧ _ | show CG _ _ _ | show CB _ _ _); simp (disch := first | ((with_reducible show isStop _ = false); rfl) | ((with_reducible show isP _ = true); rfl) | ((with_reducible show (isStop _ || isP _) = false); rfl) | assumption | (simp only [GSB, Nat.reduceEqDiff, reduceIte]; done) | omega | (with_reducible decide) | (simp only [DSB, Go.Proofs.YtdmbgbennlnpcaaDoorAbs.oneC, Go.Proofs.YtdmbgbennlnpcaaDoorAbs.St.next_withLow, Nat.reduceAdd, Nat.reduceLeDiff] <;> omega) | fail) only [↓DN, ↓reduceIte, UP, CGB, Int.reduceEq, Int.reduceLT, Int.reduceLE, Nat.reduceEqDiff, Nat.reduceAdd, Nat.reduceMul, Nat.reduceSub, Int.reduceToNat, Nat.reduceLeDiff, PF, isStop, isP, goInt, beq_self_eq_true, decide_true, decide_false, Int.toNat_natCast, Int.natCast_zero, nn_eq, nn_ne, errW0, errW1, hS8, g8, g78, hE', d5, dl'])
    | ((with_reducible refine CB_intro (fun ht => hcA ?_) (fun ht => hcB ?_)) <;> (first | (simp only [Bool.true_eq_false, Bool.false_eq_true] at ht; done) | ((try simp only [Bool.not_eq_true', Bool.not_eq_false'] at ht); (try simp only [ht]); (try simp only [HTN] at ht); (try (exfalso; omega)))))
    | ((with_reducible refine W_regionI ?_); simp only [List.append_eq, List.cons_append, List.nil_append])
    | (with_reducible refine O_splitG fun cA cB hcA hcB => ?_)
    | (exact hQ _))
      · have d5 := decide_eq_false h5
        repeat' (first
    | (with_reducible first | refine W_pushC fun K hK => ?_ | refine W_blockI ?_ | refine W_scopeI ?_ | refine W_labelI ?_ | refine W_skipI ?_ | refine W_retI ?_ | refine W_exitI ?_ | refine then_normalI ?_ | refine then_retI ?_ | refine then_exitI ?_ | refine inBlock_normalI ?_ | refine inBlock_retI ?_ | refine inBlock_exitI ?_ | refine inBlock_exitN (by decide) ?_)
    | ((with_reducible first | refine bodyQ_normal0 ?_ | refine bodyQ_normal1 ?_ | refine bodyQ_normal2 ?_ | refine bodyQ_normal3 ?_ | refine bodyQ_normal4 ?_ | refine bodyQ_ret0 ?_ | refine bodyQ_ret1 ?_ | refine bodyQ_ret2 ?_ | refine bodyQ_ret3 ?_ | refine bodyQ_ret4 ?_); (try simp only [EVB, Nat.reduceEqDiff, reduceIte]))
    | ((with_reducible show C _ _ _ _ _ _); first | ((refine Response_C h.toHP hPK (hFr'.kept kk) hr' hn' hsz' (fun v2 S7 p3 p4 k7 => ?_))))
    | (with_reducible refine Cont.use (by assumption) ?_)
    | (with_reducible first | refine hcA ?_ | refine hcB ?_)
    | ((with_reducible first | refine W_condG fun cA cB hcA hcB => ?_ | refine W_regionI ?_ | show O _ _ _ _ _ _ _ _ | show OK _ _ _ _ _ _ _ _ _ | show OKF _ _ _ _ _ _ _ _ _ _ | show OKT _ _ _ _ _ _ _ _ _ _ _ _ | show _ ∧ _ | show CG _ _ _ | show CB _ _ _); simp (disch := first | ((with_reducible show isStop _ = false); rfl) | ((with_reducible show isP _ = true); rfl) | ((with_reducible show (isStop _ || isP _) = false); rfl) | assumption | (simp only [GSB, Nat.reduceEqDiff, reduceIte]; done) | omega | (with_reducible decide) | (simp only [DSB, Go.Proofs.YtdmbgbennlnpcaaDoorAbs.oneC, Go.Proofs.YtdmbgbennlnpcaaDoorAbs.St.next_withLow, Nat.reduceAdd, Nat.reduceLeDiff] <;> omega) | fail) only [↓DN, ↓reduceIte, UP, CGB, Int.reduceEq, Int.reduceLT, Int.reduceLE, Nat.reduceEqDiff, Nat.reduceAdd, Nat.reduceMul, Nat.reduceSub, Int.reduceToNat, Nat.reduceLeDiff, PF, isStop, isP, goInt, beq_self_eq_true, decide_true, decide_false, Int.toNat_natCast, Int.natCast_zero, nn_eq, nn_ne, errW0, errW1, g22, hE', d5])
    | ((with_reducible refine CB_intro (fun ht => hcA ?_) (fun ht => hcB ?_)) <;> (first | (simp only [Bool.true_eq_false, Bool.false_eq_true] at ht; done) | ((try simp only [Bool.not_eq_true', Bool.not_eq_false'] at ht); (try simp only [ht]); (try simp only [HTN] at ht); (try (exfalso; omega)))))
    | ((with_reducible refine W_regionI ?_); simp only [List.append_eq, List.cons_append, List.nil_append])
    | (with_reducible refine O_splitG fun cA cB hcA hcB => ?_))
        have g7 := k7.get (by omega) g22
        have hP7 := hPK.kept k7
        repeat' (first
    | (with_reducible first | refine W_pushC fun K hK => ?_ | refine W_blockI ?_ | refine W_scopeI ?_ | refine W_labelI ?_ | refine W_skipI ?_ | refine W_retI ?_ | refine W_exitI ?_ | refine then_normalI ?_ | refine then_retI ?_ | refine then_exitI ?_ | refine inBlock_normalI ?_ | refine inBlock_retI ?_ | refine inBlock_exitI ?_ | refine inBlock_exitN (by decide) ?_)
    | ((with_reducible first | refine bodyQ_normal0 ?_ | refine bodyQ_normal1 ?_ | refine bodyQ_normal2 ?_ | refine bodyQ_normal3 ?_ | refine bodyQ_normal4 ?_ | refine bodyQ_ret0 ?_ | refine bodyQ_ret1 ?_ | refine bodyQ_ret2 ?_ | refine bodyQ_ret3 ?_ | refine bodyQ_ret4 ?_); (try simp only [EVB, Nat.reduceEqDiff, reduceIte]))
    | ((with_reducible show C _ _ _ _ _ _); first | (refine h.works _ _ hP7 ?_))
    | (with_reducible refine Cont.use (by assumption) ?_)
    | (with_reducible first | refine hcA ?_ | refine hcB ?_)
    | ((with_reducible first | refine W_condG fun cA cB hcA hcB => ?_ | refine W_regionI ?_ | show O _ _ _ _ _ _ _ _ | show OK _ _ _ _ _ _ _ _ _ | show OKF _ _ _ _ _ _ _ _ _ _ | show OKT _ _ _ _ _ _ _ _ _ _ _ _ | show _ ∧ _ | show CG _ _ _ | show CB _ _ _); simp (disch := first | ((with_reducible show isStop _ = false); rfl) | ((with_reducible show isP _ = true); rfl) | ((with_reducible show (isStop _ || isP _) = false); rfl) | assumption | (simp only [GSB, Nat.reduceEqDiff, reduceIte]; done) | omega | (with_reducible decide) | (simp only [DSB, Go.Proofs.YtdmbgbennlnpcaaDoorAbs.oneC, Go.Proofs.YtdmbgbennlnpcaaDoorAbs.St.next_withLow, Nat.reduceAdd, Nat.reduceLeDiff] <;> omega) | fail) only [↓DN, ↓reduceIte, UP, CGB, Int.reduceEq, Int.reduceLT, Int.reduceLE, Nat.reduceEqDiff, Nat.reduceAdd, Nat.reduceMul, Nat.reduceSub, Int.reduceToNat, Nat.reduceLeDiff, PF, isStop, isP, goInt, beq_self_eq_true, decide_true, decide_false, Int.toNat_natCast, Int.natCast_zero, nn_eq, nn_ne, errW0, errW1, g7, hE', d5])
    | ((with_reducible refine CB_intro (fun ht => hcA ?_) (fun ht => hcB ?_)) <;> (first | (simp only [Bool.true_eq_false, Bool.false_eq_true] at ht; done) | ((try simp only [Bool.not_eq_true', Bool.not_eq_false'] at ht); (try simp only [ht]); (try simp only [HTN] at ht); (try (exfalso; omega)))))
    | ((with_reducible refine W_regionI ?_); simp only [List.append_eq, List.cons_append, List.nil_append])
    | (with_reducible refine O_splitG fun cA cB hcA hcB => ?_)
    | (exact hQ _))
    · obtain ⟨c', hc'⟩ := Option.ne_none_iff_exists'.1 hE'
      repeat' (first
    | (with_reducible first | refine W_pushC fun K hK => ?_ | refine W_blockI ?_ | refine W_scopeI ?_ | refine W_labelI ?_ | refine W_skipI ?_ | refine W_retI ?_ | refine W_exitI ?_ | refine then_normalI ?_ | refine then_retI ?_ | refine then_exitI ?_ | refine inBlock_normalI ?_ | refine inBlock_retI ?_ | refine inBlock_exitI ?_ | refine inBlock_exitN (by decide) ?_)
    | ((with_reducible first | refine bodyQ_normal0 ?_ | refine bodyQ_normal1 ?_ | refine bodyQ_normal2 ?_ | refine bodyQ_normal3 ?_ | refine bodyQ_normal4 ?_ | refine bodyQ_ret0 ?_ | refine bodyQ_ret1 ?_ | refine bodyQ_ret2 ?_ | refine bodyQ_ret3 ?_ | refine bodyQ_ret4 ?_); (try simp only [EVB, Nat.reduceEqDiff, reduceIte]))
    | ((with_reducible show C _ _ _ _ _ _); first | ((refine Response_C h.toHP hPK (hFr'.kept kk) hr' hn' hsz' (fun v2 S7 p3 p4 k7 => ?_))))
    | (with_reducible refine Cont.use (by assumption) ?_)
    | (with_reducible first | refine hcA ?_ | refine hcB ?_)
    | ((with_reducible first | refine W_condG fun cA cB hcA hcB => ?_ | refine W_regionI ?_ | show O _ _ _ _ _ _ _ _ | show OK _ _ _ _ _ _ _ _ _ | show OKF _ _ _ _ _ _ _ _ _ _ | show OKT _ _ _ _ _ _ _ _ _ _ _ _ | show _ ∧ _ | show CG _ _ _ | show CB _ _ _); simp (disch := first | ((with_reducible show isStop _ = false); rfl) | ((with_reducible show isP _ = true); rfl) | ((with_reducible show (isStop _ || isP _) = false); rfl) | assumption | (simp only [GSB, Nat.reduceEqDiff, reduceIte]; done) | omega | (with_reducible decide) | (simp only [DSB, Go.Proofs.YtdmbgbennlnpcaaDoorAbs.oneC, Go.Proofs.YtdmbgbennlnpcaaDoorAbs.St.next_withLow, Nat.reduceAdd, Nat.reduceLeDiff] <;> omega) | fail) only [↓DN, ↓reduceIte, UP, CGB, Int.reduceEq, Int.reduceLT, Int.reduceLE, Nat.reduceEqDiff, Nat.reduceAdd, Nat.reduceMul, Nat.reduceSub, Int.reduceToNat, Nat.reduceLeDiff, PF, isStop, isP, goInt, beq_self_eq_true, decide_true, decide_false, Int.toNat_natCast, Int.natCast_zero, nn_eq, nn_ne, errW0, errW1, g22, hc', in_eq])
    | ((with_reducible refine CB_intro (fun ht => hcA ?_) (fun ht => hcB ?_)) <;> (first | (simp only [Bool.true_eq_false, Bool.false_eq_true] at ht; done) | ((try simp only [Bool.not_eq_true', Bool.not_eq_false'] at ht); (try simp only [ht]); (try simp only [HTN] at ht); (try (exfalso; omega)))))
    | ((with_reducible refine W_regionI ?_); simp only [List.append_eq, List.cons_append, List.nil_append])
    | (with_reducible refine O_splitG fun cA cB hcA hcB => ?_))
      have g7 := k7.get (by omega) g22
      have hP7 := hPK.kept k7
      repeat' (first
    | (with_reducible first | refine W_pushC fun K hK => ?_ | refine W_blockI ?_ | refine W_scopeI ?_ | refine W_labelI ?_ | refine W_skipI ?_ | refine W_retI ?_ | refine W_exitI ?_ | refine then_normalI ?_ | refine then_retI ?_ | refine then_exitI ?_ | refine inBlock_normalI ?_ | refine inBlock_retI ?_ | refine inBlock_exitI ?_ | refine inBlock_exitN (by decide) ?_)
    | ((with_reducible first | refine bodyQ_normal0 ?_ | refine bodyQ_normal1 ?_ | refine bodyQ_normal2 ?_ | refine bodyQ_normal3 ?_ | refine bodyQ_normal4 ?_ | refine bodyQ_ret0 ?_ | refine bodyQ_ret1 ?_ | refine bodyQ_ret2 ?_ | refine bodyQ_ret3 ?_ | refine bodyQ_ret4 ?_); (try simp only [EVB, Nat.reduceEqDiff, reduceIte]))
    | ((with_reducible show C _ _ _ _ _ _); first | (refine h.works _ _ hP7 ?_))
    | (with_reducible refine Cont.use (by assumption) ?_)
    | (with_reducible first | refine hcA ?_ | refine hcB ?_)
    | ((with_reducible first | refine W_condG fun cA cB hcA hcB => ?_ | refine W_regionI ?_ | show O _ _ _ _ _ _ _ _ | show OK _ _ _ _ _ _ _ _ _ | show OKF _ _ _ _ _ _ _ _ _ _ | show OKT _ _ _ _ _ _ _ _ _ _ _ _ | show _ ∧ _ | show CG _ _ _ | show CB _ _ _); simp (disch := first | ((with_reducible show isStop _ = false); rfl) | ((with_reducible show isP _ = true); rfl) | ((with_reducible show (isStop _ || isP _) = false); rfl) | assumption | (simp only [GSB, Nat.reduceEqDiff, reduceIte]; done) | omega | (with_reducible decide) | (simp only [DSB, Go.Proofs.YtdmbgbennlnpcaaDoorAbs.oneC, Go.Proofs.YtdmbgbennlnpcaaDoorAbs.St.next_withLow, Nat.reduceAdd, Nat.reduceLeDiff] <;> omega) | fail) only [↓DN, ↓reduceIte, UP, CGB, Int.reduceEq, Int.reduceLT, Int.reduceLE, Nat.reduceEqDiff, Nat.reduceAdd, Nat.reduceMul, Nat.reduceSub, Int.reduceToNat, Nat.reduceLeDiff, PF, isStop, isP, goInt, beq_self_eq_true, decide_true, decide_false, Int.toNat_natCast, Int.natCast_zero, nn_eq, nn_ne, errW0, errW1, g7, hc', in_eq])
    | ((with_reducible refine CB_intro (fun ht => hcA ?_) (fun ht => hcB ?_)) <;> (first | (simp only [Bool.true_eq_false, Bool.false_eq_true] at ht; done) | ((try simp only [Bool.not_eq_true', Bool.not_eq_false'] at ht); (try simp only [ht]); (try simp only [HTN] at ht); (try (exfalso; omega)))))
    | ((with_reducible refine W_regionI ?_); simp only [List.append_eq, List.cons_append, List.nil_append])
    | (with_reducible refine O_splitG fun cA cB hcA hcB => ?_)
    | (exact hQ _))
end
end Go.Proofs.YtdmbgbennlnpcaaDoor.Q
