/- A whole head out of bytes: the two functions that parse one. By hand. -/
import Derived.Test.YtmmlacbcolfngaaDoorHRdAll
import Derived.Test.YtmmlacbcolfngaaDoorHRdResponse
namespace Go.Proofs.YtmmlacbcolfngaaDoor.Q
open Go.RowKit Go.Proofs.YtmmlacbcolfngaaDoorW.PrintWords Go.Proofs.YtmmlacbcolfngaaDoorW.PrintLast Go.Proofs.YtmmlacbcolfngaaDoorW.PrintMore
attribute [local go_sem] max2_int min2_int max_two min_two max_three min_three max_four min_four
set_option linter.unusedVariables false
set_option linter.unusedSimpArgs false
set_option maxRecDepth 8000

theorem new_ok (most : Int) (asks : Bool) (at_ : Int) (h : ¬(most < 1 ∨ most > 65536)) : (RdSt.new most asks at_).OK := by
  refine ⟨by simp [RdSt.new], by simp [RdSt.new], by simp [RdSt.new], ?_, fun _ => ?_⟩
  · show most ≤ 65536
    omega
  · show (0 : Int) ≤ most
    omega

theorem parseRequest_bad (w : World) (A : Option Addr) (bs : List Int) (cb : Nat) (most : Int) (h : most < 1 ∨ most > 65536) :
    Calls Tryd.prog 13 #[.slice A bs.length cb, .int .i64 most] w fun e w' => e = .returned (.tuple #[.agg #[.string (⟨#[]⟩ : ByteArray), .string (⟨#[]⟩ : ByteArray), .int .i64 0, .slice none 0 0], .int .i64 0, errW (some 1)]) ∧ Below w.heap.size w w' := by
  have hm := Aside0.mk h
  clear h
  go_enter Tryd.func13, Tryd.ntmps13
  go_wp2_with (first
    | ((with_reducible refine gate_dst (N := 4) rfl ?_)
       refine box_event ?hg (N := 4) ?hd (cs := #[.string (⟨#[]⟩ : ByteArray), .string (⟨#[]⟩ : ByteArray), .int .i64 0, .slice none 0 0]) (t := 24) ?hr ?_
       case hd => rfl
       case hg => rfl
       case hr => first | (go_simp; done) | (go_simp; rfl)
       intro ga hga w1 hba hb1
       have HB1 := Aside0.mk hb1
       have BA1 := Aside0.mk hba
       have GA := Aside0.mk (show w.heap.size ≤ ga by omega)
       clear hga hba hb1)
    | ((with_reducible refine gate_callee (f := 52) rfl ?_)
       refine goesL_ (some 13) rfl rfl Tryd.func52 (by kernel_rfl) rfl #[.int .i64 most] rfl (by (try simp only [List.map_toArray, List.map_cons, List.map_nil]); first | done | rfl) ?_
       (with_reducible refine (newRequest_bad _ most hm.out).mono ?_)
       rintro e w2 ⟨rfl, hb⟩
       have HB2 := Aside0.mk (below_step HB1.out hb)
       have BA2 := Aside0.mk (blk_below BA1.out hb)
       clear hb
       refine ⟨_, rfl, ?_⟩)
    | ((with_reducible refine gate_callee (f := 53) rfl ?_)
       refine goesL_ (some 20) rfl rfl Tryd.func53 (by kernel_rfl) rfl #[.pointer none, errW (some 1), .slice A bs.length cb] rfl (by (try simp only [List.map_toArray, List.map_cons, List.map_nil]); first | done | rfl) ?_
       (with_reducible refine (all_bad _ 1 _).mono ?_)
       rintro e w3 ⟨rfl, hb⟩
       have HB3 := Aside0.mk (below_step HB2.out hb)
       have BA3 := Aside0.mk (blk_below BA2.out hb)
       have ka0 : w3.cell? ⟨ga, 0, none⟩ = some (.string (⟨#[]⟩ : ByteArray)) := (blk_cell BA3.out 0).trans rfl
       have ka1 : w3.cell? ⟨ga, 1, none⟩ = some (.string (⟨#[]⟩ : ByteArray)) := (blk_cell BA3.out 1).trans rfl
       have ka2 : w3.cell? ⟨ga, 2, none⟩ = some (.int .i64 0) := (blk_cell BA3.out 2).trans rfl
       have ka3 : w3.cell? ⟨ga, 3, none⟩ = some (.slice none 0 0) := (blk_cell BA3.out 3).trans rfl
       have fa0 := blk_frozen BA3.out 0
       have fa1 := blk_frozen BA3.out 1
       have fa2 := blk_frozen BA3.out 2
       have fa3 := blk_frozen BA3.out 3
       clear hb
       rw [errW_some]
       refine ⟨_, rfl, ?_⟩))
  refine bodyPost_ret (results_ctt rfl _ _ ga 24 #[.string (⟨#[]⟩ : ByteArray), .string (⟨#[]⟩ : ByteArray), .int .i64 0, .slice none 0 0] (0, 0) _ rfl (blk_put (blk_put (blk_put (blk_put BA3.out 0 _ rfl) 1 _ rfl) 2 _ rfl) 3 _ rfl) Tryd.underlying24 rfl (by kernel_rfl)) rfl ?_
  exact ⟨rfl, below_set (below_set (below_set (below_set HB3.out GA.out) GA.out) GA.out) GA.out⟩

theorem parseRequest_err (w : World) (A : Option Addr) (bs : List Int) (cb : Nat) (most : Int) (hC : (Kd.int .u8).C w A bs.length bs) (hn : bs.length ≤ 9000000000000000000) (hx : ∀ x, x ∈ bs → 0 ≤ x ∧ x ≤ 255) (h : ¬(most < 1 ∨ most > 65536)) (x : Int) (ha : (RdSt.new most true 0).all bs = (0, some x)) :
    Calls Tryd.prog 13 #[.slice A bs.length cb, .int .i64 most] w fun e w' => e = .returned (.tuple #[.agg #[.string (⟨#[]⟩ : ByteArray), .string (⟨#[]⟩ : ByteArray), .int .i64 0, .slice none 0 0], .int .i64 0, errW (some x)]) ∧ Below w.heap.size w w' := by
  have HAL := Aside0.mk ha
  clear ha
  have HC := Aside0.mk hC
  have HX := Aside0.mk hx
  have hm := Aside0.mk h
  clear hC hx h
  go_enter Tryd.func13, Tryd.ntmps13
  go_wp2_with (first
    | ((with_reducible refine gate_dst (N := 4) rfl ?_)
       refine box_event ?hg (N := 4) ?hd (cs := #[.string (⟨#[]⟩ : ByteArray), .string (⟨#[]⟩ : ByteArray), .int .i64 0, .slice none 0 0]) (t := 24) ?hr ?_
       case hd => rfl
       case hg => rfl
       case hr => first | (go_simp; done) | (go_simp; rfl)
       intro ga hga w1 hba hb1
       have HB1 := Aside0.mk hb1
       have BA1 := Aside0.mk hba
       have GA := Aside0.mk (show w.heap.size ≤ ga by omega)
       clear hga hba hb1)
    | ((with_reducible refine gate_callee (f := 52) rfl ?_)
       refine goesL_ (some 13) rfl rfl Tryd.func52 (by kernel_rfl) rfl #[.int .i64 most] rfl (by (try simp only [List.map_toArray, List.map_cons, List.map_nil]); first | done | rfl) ?_
       (with_reducible refine (newRequest_good _ most hm.out).mono ?_)
       rintro e w2 ⟨g, rfl, hr, hb⟩
       have HB2 := Aside0.mk (below_step HB1.out hb)
       have BA2 := Aside0.mk (blk_below BA1.out hb)
       have R2 := Aside0.mk hr
       have HW := Aside0.mk hb
       clear hb hr
       refine ⟨_, rfl, ?_⟩)
    | ((with_reducible refine gate_callee (f := 53) rfl ?_)
       refine goesL_ (some 20) rfl rfl Tryd.func53 (by kernel_rfl) rfl #[.pointer (some ⟨g, 0, none⟩), errW none, .slice A bs.length cb] rfl (by (try simp only [List.map_toArray, List.map_cons, List.map_nil]); first | done | rfl) ?_
       (with_reducible refine (all_calls w1 w2 g (RdSt.new most true 0) (.slice none 0 0) (.slice none 0 0) A bs cb (Kd.C_below HC.out HB1.out) hn HX.out HW.out (new_ok most true 0 hm.out) R2.out).mono ?_)
       rintro e w3 ⟨v0, v1, rfl, hs⟩
       have R3 := Aside0.mk hs.rd
       have HB3 := Aside0.mk (below_weaken HB1.out (below_size HB1.out) ((HW.out.trans hs.chg.below)))
       have BA3 := Aside0.mk ((hs.chg.below.block ga (blk_lt BA1.out)).trans ((HW.out.block ga (blk_lt BA1.out)).trans BA1.out))
       have ka0 : w3.cell? ⟨ga, 0, none⟩ = some (.string (⟨#[]⟩ : ByteArray)) := (blk_cell BA3.out 0).trans rfl
       have ka1 : w3.cell? ⟨ga, 1, none⟩ = some (.string (⟨#[]⟩ : ByteArray)) := (blk_cell BA3.out 1).trans rfl
       have ka2 : w3.cell? ⟨ga, 2, none⟩ = some (.int .i64 0) := (blk_cell BA3.out 2).trans rfl
       have ka3 : w3.cell? ⟨ga, 3, none⟩ = some (.slice none 0 0) := (blk_cell BA3.out 3).trans rfl
       have fa0 := blk_frozen BA3.out 0
       have fa1 := blk_frozen BA3.out 1
       have fa2 := blk_frozen BA3.out 2
       have fa3 := blk_frozen BA3.out 3
       clear hs
       rw [HAL.out, errW_some]
       refine ⟨_, rfl, ?_⟩))
  refine bodyPost_ret (results_ctt rfl _ _ ga 24 #[.string (⟨#[]⟩ : ByteArray), .string (⟨#[]⟩ : ByteArray), .int .i64 0, .slice none 0 0] (0, 0) _ rfl (blk_put (blk_put (blk_put (blk_put BA3.out 0 _ rfl) 1 _ rfl) 2 _ rfl) 3 _ rfl) Tryd.underlying24 rfl (by kernel_rfl)) rfl ?_
  exact ⟨rfl, below_set (below_set (below_set (below_set HB3.out GA.out) GA.out) GA.out) GA.out⟩

theorem parseRequest_ok (w : World) (A : Option Addr) (bs : List Int) (cb : Nat) (most : Int) (hC : (Kd.int .u8).C w A bs.length bs) (hn : bs.length ≤ 9000000000000000000) (hx : ∀ x, x ∈ bs → 0 ≤ x ∧ x ≤ 255) (h : ¬(most < 1 ∨ most > 65536)) (n : Int) (ha : (RdSt.new most true 0).all bs = (n, none)) (hd : ((RdSt.new most true 0).feed bs).1.done true = true) (hfl : ((RdSt.new most true 0).feed bs).1.field.length ≤ 1000000) :
    Calls Tryd.prog 13 #[.slice A bs.length cb, .int .i64 most] w fun e w' => ∃ v, e = .returned (.tuple #[.agg #[.string ((RdSt.new most true 0).feed bs).1.qm, .string ((RdSt.new most true 0).feed bs).1.qt, .int .i64 ((RdSt.new most true 0).feed bs).1.qn, v], .int .i64 n, errW none]) ∧ Kd.R k67 67 w' w.heap.size (fun _ => True) v ((RdSt.new most true 0).feed bs).1.field ∧ Below w.heap.size w w' := by
  have HAL := Aside0.mk ha
  have HD := Aside0.mk hd
  have HF := Aside0.mk hfl
  clear ha hd hfl
  generalize hst : ((RdSt.new most true 0).feed bs).1 = st at HD HF ⊢
  have HST := Aside0.mk hst
  clear hst
  have HC := Aside0.mk hC
  have HX := Aside0.mk hx
  have hm := Aside0.mk h
  clear hC hx h
  go_enter Tryd.func13, Tryd.ntmps13
  go_wp2_with (first
    | ((with_reducible refine gate_dst (N := 4) rfl ?_)
       refine box_event ?hg (N := 4) ?hd (cs := #[.string (⟨#[]⟩ : ByteArray), .string (⟨#[]⟩ : ByteArray), .int .i64 0, .slice none 0 0]) (t := 24) ?hr ?_
       case hd => rfl
       case hg => rfl
       case hr => first | (go_simp; done) | (go_simp; rfl)
       intro ga hga w1 hba hb1
       have HB1 := Aside0.mk hb1
       have BA1 := Aside0.mk hba
       have GA := Aside0.mk (show w.heap.size ≤ ga by omega)
       clear hga hba hb1)
    | ((with_reducible refine gate_callee (f := 52) rfl ?_)
       refine goesL_ (some 13) rfl rfl Tryd.func52 (by kernel_rfl) rfl #[.int .i64 most] rfl (by (try simp only [List.map_toArray, List.map_cons, List.map_nil]); first | done | rfl) ?_
       (with_reducible refine (newRequest_good _ most hm.out).mono ?_)
       rintro e w2 ⟨g, rfl, hr, hb⟩
       have HB2 := Aside0.mk (below_step HB1.out hb)
       have BA2 := Aside0.mk (blk_below BA1.out hb)
       have R2 := Aside0.mk hr
       have HW := Aside0.mk hb
       clear hb hr
       refine ⟨_, rfl, ?_⟩)
    | ((with_reducible refine gate_callee (f := 53) rfl ?_)
       refine goesL_ (some 20) rfl rfl Tryd.func53 (by kernel_rfl) rfl #[.pointer (some ⟨g, 0, none⟩), errW none, .slice A bs.length cb] rfl (by (try simp only [List.map_toArray, List.map_cons, List.map_nil]); first | done | rfl) ?_
       (with_reducible refine (all_calls w1 w2 g (RdSt.new most true 0) (.slice none 0 0) (.slice none 0 0) A bs cb (Kd.C_below HC.out HB1.out) hn HX.out HW.out (new_ok most true 0 hm.out) R2.out).mono ?_)
       rintro e w3 ⟨v0, v1, rfl, hs⟩
       have R3 := Aside0.mk (HST.out ▸ hs.rd)
       have HB3 := Aside0.mk (below_weaken HB1.out (below_size HB1.out) ((HW.out.trans hs.chg.below)))
       have BA3 := Aside0.mk ((hs.chg.below.block ga (blk_lt BA1.out)).trans ((HW.out.block ga (blk_lt BA1.out)).trans BA1.out))
       have ka0 : w3.cell? ⟨ga, 0, none⟩ = some (.string (⟨#[]⟩ : ByteArray)) := (blk_cell BA3.out 0).trans rfl
       have ka1 : w3.cell? ⟨ga, 1, none⟩ = some (.string (⟨#[]⟩ : ByteArray)) := (blk_cell BA3.out 1).trans rfl
       have ka2 : w3.cell? ⟨ga, 2, none⟩ = some (.int .i64 0) := (blk_cell BA3.out 2).trans rfl
       have ka3 : w3.cell? ⟨ga, 3, none⟩ = some (.slice none 0 0) := (blk_cell BA3.out 3).trans rfl
       have fa0 := blk_frozen BA3.out 0
       have fa1 := blk_frozen BA3.out 1
       have fa2 := blk_frozen BA3.out 2
       have fa3 := blk_frozen BA3.out 3
       clear hs
       rw [HAL.out, errW_none]
       refine ⟨_, rfl, ?_⟩)
    | ((with_reducible refine gate_callee (f := 26) rfl ?_)
       refine goesL_ (some 29) rfl rfl Tryd.func26 (by kernel_rfl) rfl #[.pointer (some ⟨g, 0, none⟩)] rfl (by (try simp only [List.map_toArray, List.map_cons, List.map_nil]); first | done | rfl) ?_
       (with_reducible refine (request_yes _ _ g st v0 v1 R3.out HD.out HF.out).mono ?_)
       rintro e w4 ⟨v, rfl, hr, hb⟩
       obtain ⟨A5, c5, ev, _, _⟩ := Kd.R_reads hr
       subst ev
       have R4 := Aside0.mk (Kd.R_lower hr (below_size HB3.out))
       have HB4 := Aside0.mk (below_step HB3.out hb)
       have BA4 := Aside0.mk (blk_below BA3.out hb)
       clear hb hr
       rw [errW_none]
       refine ⟨_, rfl, ?_⟩)
    | ((with_reducible refine gate_dst (N := 10) rfl ?_)
       refine box_event ?hg (N := 10) ?hd (cs := #[.string (⟨#[]⟩ : ByteArray), .string (⟨#[]⟩ : ByteArray), .int .i64 0, .slice none 0 0]) (t := 24) ?hr ?_
       case hd => rfl
       case hg => rfl
       case hr => first | (go_simp; done) | (go_simp; rfl)
       intro gb hgb w5 hbb hb5
       have HB5 := Aside0.mk (below_step HB4.out hb5)
       have BA5 := Aside0.mk (blk_below BA4.out hb5)
       have BB5 := Aside0.mk hbb
       have R5 := Aside0.mk (Kd.R_below R4.out hb5)
       have GB := Aside0.mk (show w.heap.size ≤ gb by have := below_size HB4.out; omega)
       have NN := Aside0.mk (show ga ≠ gb from fun e => by have := blk_lt BA4.out; omega)
       have n3 : (ga = gb) = False := eq_false NN.out
       have n4 : (gb = ga) = False := eq_false (fun e => NN.out e.symm)
       have kb0 : w5.cell? ⟨ga, 0, none⟩ = some (.string (⟨#[]⟩ : ByteArray)) := (blk_cell BA5.out 0).trans rfl
       have kb1 : w5.cell? ⟨ga, 1, none⟩ = some (.string (⟨#[]⟩ : ByteArray)) := (blk_cell BA5.out 1).trans rfl
       have kb2 : w5.cell? ⟨ga, 2, none⟩ = some (.int .i64 0) := (blk_cell BA5.out 2).trans rfl
       have kb3 : w5.cell? ⟨ga, 3, none⟩ = some (.slice none 0 0) := (blk_cell BA5.out 3).trans rfl
       have fb0 := blk_frozen BA5.out 0
       have fb1 := blk_frozen BA5.out 1
       have fb2 := blk_frozen BA5.out 2
       have fb3 := blk_frozen BA5.out 3
       have kc0 : w5.cell? ⟨gb, 0, none⟩ = some (.string (⟨#[]⟩ : ByteArray)) := (blk_cell BB5.out 0).trans rfl
       have kc1 : w5.cell? ⟨gb, 1, none⟩ = some (.string (⟨#[]⟩ : ByteArray)) := (blk_cell BB5.out 1).trans rfl
       have kc2 : w5.cell? ⟨gb, 2, none⟩ = some (.int .i64 0) := (blk_cell BB5.out 2).trans rfl
       have kc3 : w5.cell? ⟨gb, 3, none⟩ = some (.slice none 0 0) := (blk_cell BB5.out 3).trans rfl
       have fc0 := blk_frozen BB5.out 0
       have fc1 := blk_frozen BB5.out 1
       have fc2 := blk_frozen BB5.out 2
       have fc3 := blk_frozen BB5.out 3
       clear hgb hbb hb5))
  have BAW := Aside0.mk (blk_far (blk_far (blk_far (blk_far BA5.out (p := ⟨gb, 0, none⟩) NN.out (.string st.qm)) (p := ⟨gb, 1, none⟩) NN.out (.string st.qt)) (p := ⟨gb, 2, none⟩) NN.out (.int .i64 st.qn)) (p := ⟨gb, 3, none⟩) NN.out (.slice A5 st.field.length c5))
  refine bodyPost_ret (results_ctt rfl _ _ ga 24 #[.string st.qm, .string st.qt, .int .i64 st.qn, .slice A5 st.field.length c5] (0, 0) _ rfl (blk_put (blk_put (blk_put (blk_put BAW.out 0 _ rfl) 1 _ rfl) 2 _ rfl) 3 _ rfl) Tryd.underlying24 rfl (by kernel_rfl)) rfl ?_
  refine ⟨_, rfl, ?_, ?_⟩
  · have q0 := Kd.R_set R5.out BB5.out (by decide) 0 (.string st.qm)
    have d0 := blk_set BB5.out 0 (.string st.qm)
    have q1 := Kd.R_set q0 d0 (by decide) 1 (.string st.qt)
    have d1 := blk_set d0 1 (.string st.qt)
    have q2 := Kd.R_set q1 d1 (by decide) 2 (.int .i64 st.qn)
    have d2 := blk_set d1 2 (.int .i64 st.qn)
    have q3 := Kd.R_set q2 d2 (by decide) 3 (.slice A5 st.field.length c5)
    have r1 := Kd.R_set q3 BAW.out (by decide) 0 (.string st.qm)
    have b1 := blk_set BAW.out 0 (.string st.qm)
    have r2 := Kd.R_set r1 b1 (by decide) 1 (.string st.qt)
    have b2 := blk_set b1 1 (.string st.qt)
    have r3 := Kd.R_set r2 b2 (by decide) 2 (.int .i64 st.qn)
    have b3 := blk_set b2 2 (.int .i64 st.qn)
    exact Kd.R_set r3 b3 (by decide) 3 _
  · exact below_set (below_set (below_set (below_set (below_set (below_set (below_set (below_set HB5.out GB.out) GB.out) GB.out) GB.out) GA.out) GA.out) GA.out) GA.out

theorem parseResponse_bad (w : World) (A : Option Addr) (bs : List Int) (cb : Nat) (most : Int) (h : most < 1 ∨ most > 65536) :
    Calls Tryd.prog 16 #[.slice A bs.length cb, .int .i64 most] w fun e w' => e = .returned (.tuple #[.agg #[.int .i64 0, .string (⟨#[]⟩ : ByteArray), .int .i64 0, .slice none 0 0], .int .i64 0, errW (some 1)]) ∧ Below w.heap.size w w' := by
  have hm := Aside0.mk h
  clear h
  go_enter Tryd.func16, Tryd.ntmps16
  go_wp2_with (first
    | ((with_reducible refine gate_dst (N := 4) rfl ?_)
       refine box_event ?hg (N := 4) ?hd (cs := #[.int .i64 0, .string (⟨#[]⟩ : ByteArray), .int .i64 0, .slice none 0 0]) (t := 26) ?hr ?_
       case hd => rfl
       case hg => rfl
       case hr => first | (go_simp; done) | (go_simp; rfl)
       intro ga hga w1 hba hb1
       have HB1 := Aside0.mk hb1
       have BA1 := Aside0.mk hba
       have GA := Aside0.mk (show w.heap.size ≤ ga by omega)
       clear hga hba hb1)
    | ((with_reducible refine gate_callee (f := 54) rfl ?_)
       refine goesL_ (some 13) rfl rfl Tryd.func54 (by kernel_rfl) rfl #[.int .i64 most] rfl (by (try simp only [List.map_toArray, List.map_cons, List.map_nil]); first | done | rfl) ?_
       (with_reducible refine (newResponse_bad _ most hm.out).mono ?_)
       rintro e w2 ⟨rfl, hb⟩
       have HB2 := Aside0.mk (below_step HB1.out hb)
       have BA2 := Aside0.mk (blk_below BA1.out hb)
       clear hb
       refine ⟨_, rfl, ?_⟩)
    | ((with_reducible refine gate_callee (f := 53) rfl ?_)
       refine goesL_ (some 20) rfl rfl Tryd.func53 (by kernel_rfl) rfl #[.pointer none, errW (some 1), .slice A bs.length cb] rfl (by (try simp only [List.map_toArray, List.map_cons, List.map_nil]); first | done | rfl) ?_
       (with_reducible refine (all_bad _ 1 _).mono ?_)
       rintro e w3 ⟨rfl, hb⟩
       have HB3 := Aside0.mk (below_step HB2.out hb)
       have BA3 := Aside0.mk (blk_below BA2.out hb)
       have ka0 : w3.cell? ⟨ga, 0, none⟩ = some (.int .i64 0) := (blk_cell BA3.out 0).trans rfl
       have ka1 : w3.cell? ⟨ga, 1, none⟩ = some (.string (⟨#[]⟩ : ByteArray)) := (blk_cell BA3.out 1).trans rfl
       have ka2 : w3.cell? ⟨ga, 2, none⟩ = some (.int .i64 0) := (blk_cell BA3.out 2).trans rfl
       have ka3 : w3.cell? ⟨ga, 3, none⟩ = some (.slice none 0 0) := (blk_cell BA3.out 3).trans rfl
       have fa0 := blk_frozen BA3.out 0
       have fa1 := blk_frozen BA3.out 1
       have fa2 := blk_frozen BA3.out 2
       have fa3 := blk_frozen BA3.out 3
       clear hb
       rw [errW_some]
       refine ⟨_, rfl, ?_⟩))
  refine bodyPost_ret (results_ctt rfl _ _ ga 26 #[.int .i64 0, .string (⟨#[]⟩ : ByteArray), .int .i64 0, .slice none 0 0] (0, 0) _ rfl (blk_put (blk_put (blk_put (blk_put BA3.out 0 _ rfl) 1 _ rfl) 2 _ rfl) 3 _ rfl) Tryd.underlying26 rfl (by kernel_rfl)) rfl ?_
  exact ⟨rfl, below_set (below_set (below_set (below_set HB3.out GA.out) GA.out) GA.out) GA.out⟩

theorem parseResponse_err (w : World) (A : Option Addr) (bs : List Int) (cb : Nat) (most : Int) (hC : (Kd.int .u8).C w A bs.length bs) (hn : bs.length ≤ 9000000000000000000) (hx : ∀ x, x ∈ bs → 0 ≤ x ∧ x ≤ 255) (h : ¬(most < 1 ∨ most > 65536)) (x : Int) (ha : (RdSt.new most false 3).all bs = (0, some x)) :
    Calls Tryd.prog 16 #[.slice A bs.length cb, .int .i64 most] w fun e w' => e = .returned (.tuple #[.agg #[.int .i64 0, .string (⟨#[]⟩ : ByteArray), .int .i64 0, .slice none 0 0], .int .i64 0, errW (some x)]) ∧ Below w.heap.size w w' := by
  have HAL := Aside0.mk ha
  clear ha
  have HC := Aside0.mk hC
  have HX := Aside0.mk hx
  have hm := Aside0.mk h
  clear hC hx h
  go_enter Tryd.func16, Tryd.ntmps16
  go_wp2_with (first
    | ((with_reducible refine gate_dst (N := 4) rfl ?_)
       refine box_event ?hg (N := 4) ?hd (cs := #[.int .i64 0, .string (⟨#[]⟩ : ByteArray), .int .i64 0, .slice none 0 0]) (t := 26) ?hr ?_
       case hd => rfl
       case hg => rfl
       case hr => first | (go_simp; done) | (go_simp; rfl)
       intro ga hga w1 hba hb1
       have HB1 := Aside0.mk hb1
       have BA1 := Aside0.mk hba
       have GA := Aside0.mk (show w.heap.size ≤ ga by omega)
       clear hga hba hb1)
    | ((with_reducible refine gate_callee (f := 54) rfl ?_)
       refine goesL_ (some 13) rfl rfl Tryd.func54 (by kernel_rfl) rfl #[.int .i64 most] rfl (by (try simp only [List.map_toArray, List.map_cons, List.map_nil]); first | done | rfl) ?_
       (with_reducible refine (newResponse_good _ most hm.out).mono ?_)
       rintro e w2 ⟨g, rfl, hr, hb⟩
       have HB2 := Aside0.mk (below_step HB1.out hb)
       have BA2 := Aside0.mk (blk_below BA1.out hb)
       have R2 := Aside0.mk hr
       have HW := Aside0.mk hb
       clear hb hr
       refine ⟨_, rfl, ?_⟩)
    | ((with_reducible refine gate_callee (f := 53) rfl ?_)
       refine goesL_ (some 20) rfl rfl Tryd.func53 (by kernel_rfl) rfl #[.pointer (some ⟨g, 0, none⟩), errW none, .slice A bs.length cb] rfl (by (try simp only [List.map_toArray, List.map_cons, List.map_nil]); first | done | rfl) ?_
       (with_reducible refine (all_calls w1 w2 g (RdSt.new most false 3) (.slice none 0 0) (.slice none 0 0) A bs cb (Kd.C_below HC.out HB1.out) hn HX.out HW.out (new_ok most false 3 hm.out) R2.out).mono ?_)
       rintro e w3 ⟨v0, v1, rfl, hs⟩
       have R3 := Aside0.mk hs.rd
       have HB3 := Aside0.mk (below_weaken HB1.out (below_size HB1.out) ((HW.out.trans hs.chg.below)))
       have BA3 := Aside0.mk ((hs.chg.below.block ga (blk_lt BA1.out)).trans ((HW.out.block ga (blk_lt BA1.out)).trans BA1.out))
       have ka0 : w3.cell? ⟨ga, 0, none⟩ = some (.int .i64 0) := (blk_cell BA3.out 0).trans rfl
       have ka1 : w3.cell? ⟨ga, 1, none⟩ = some (.string (⟨#[]⟩ : ByteArray)) := (blk_cell BA3.out 1).trans rfl
       have ka2 : w3.cell? ⟨ga, 2, none⟩ = some (.int .i64 0) := (blk_cell BA3.out 2).trans rfl
       have ka3 : w3.cell? ⟨ga, 3, none⟩ = some (.slice none 0 0) := (blk_cell BA3.out 3).trans rfl
       have fa0 := blk_frozen BA3.out 0
       have fa1 := blk_frozen BA3.out 1
       have fa2 := blk_frozen BA3.out 2
       have fa3 := blk_frozen BA3.out 3
       clear hs
       rw [HAL.out, errW_some]
       refine ⟨_, rfl, ?_⟩))
  refine bodyPost_ret (results_ctt rfl _ _ ga 26 #[.int .i64 0, .string (⟨#[]⟩ : ByteArray), .int .i64 0, .slice none 0 0] (0, 0) _ rfl (blk_put (blk_put (blk_put (blk_put BA3.out 0 _ rfl) 1 _ rfl) 2 _ rfl) 3 _ rfl) Tryd.underlying26 rfl (by kernel_rfl)) rfl ?_
  exact ⟨rfl, below_set (below_set (below_set (below_set HB3.out GA.out) GA.out) GA.out) GA.out⟩

theorem parseResponse_ok (w : World) (A : Option Addr) (bs : List Int) (cb : Nat) (most : Int) (hC : (Kd.int .u8).C w A bs.length bs) (hn : bs.length ≤ 9000000000000000000) (hx : ∀ x, x ∈ bs → 0 ≤ x ∧ x ≤ 255) (h : ¬(most < 1 ∨ most > 65536)) (n : Int) (ha : (RdSt.new most false 3).all bs = (n, none)) (hd : ((RdSt.new most false 3).feed bs).1.done false = true) (hfl : ((RdSt.new most false 3).feed bs).1.field.length ≤ 1000000) :
    Calls Tryd.prog 16 #[.slice A bs.length cb, .int .i64 most] w fun e w' => ∃ v, e = .returned (.tuple #[.agg #[.int .i64 ((RdSt.new most false 3).feed bs).1.ps, .string ((RdSt.new most false 3).feed bs).1.pr, .int .i64 ((RdSt.new most false 3).feed bs).1.pn, v], .int .i64 n, errW none]) ∧ Kd.R k67 67 w' w.heap.size (fun _ => True) v ((RdSt.new most false 3).feed bs).1.field ∧ Below w.heap.size w w' := by
  have HAL := Aside0.mk ha
  have HD := Aside0.mk hd
  have HF := Aside0.mk hfl
  clear ha hd hfl
  generalize hst : ((RdSt.new most false 3).feed bs).1 = st at HD HF ⊢
  have HST := Aside0.mk hst
  clear hst
  have HC := Aside0.mk hC
  have HX := Aside0.mk hx
  have hm := Aside0.mk h
  clear hC hx h
  go_enter Tryd.func16, Tryd.ntmps16
  go_wp2_with (first
    | ((with_reducible refine gate_dst (N := 4) rfl ?_)
       refine box_event ?hg (N := 4) ?hd (cs := #[.int .i64 0, .string (⟨#[]⟩ : ByteArray), .int .i64 0, .slice none 0 0]) (t := 26) ?hr ?_
       case hd => rfl
       case hg => rfl
       case hr => first | (go_simp; done) | (go_simp; rfl)
       intro ga hga w1 hba hb1
       have HB1 := Aside0.mk hb1
       have BA1 := Aside0.mk hba
       have GA := Aside0.mk (show w.heap.size ≤ ga by omega)
       clear hga hba hb1)
    | ((with_reducible refine gate_callee (f := 54) rfl ?_)
       refine goesL_ (some 13) rfl rfl Tryd.func54 (by kernel_rfl) rfl #[.int .i64 most] rfl (by (try simp only [List.map_toArray, List.map_cons, List.map_nil]); first | done | rfl) ?_
       (with_reducible refine (newResponse_good _ most hm.out).mono ?_)
       rintro e w2 ⟨g, rfl, hr, hb⟩
       have HB2 := Aside0.mk (below_step HB1.out hb)
       have BA2 := Aside0.mk (blk_below BA1.out hb)
       have R2 := Aside0.mk hr
       have HW := Aside0.mk hb
       clear hb hr
       refine ⟨_, rfl, ?_⟩)
    | ((with_reducible refine gate_callee (f := 53) rfl ?_)
       refine goesL_ (some 20) rfl rfl Tryd.func53 (by kernel_rfl) rfl #[.pointer (some ⟨g, 0, none⟩), errW none, .slice A bs.length cb] rfl (by (try simp only [List.map_toArray, List.map_cons, List.map_nil]); first | done | rfl) ?_
       (with_reducible refine (all_calls w1 w2 g (RdSt.new most false 3) (.slice none 0 0) (.slice none 0 0) A bs cb (Kd.C_below HC.out HB1.out) hn HX.out HW.out (new_ok most false 3 hm.out) R2.out).mono ?_)
       rintro e w3 ⟨v0, v1, rfl, hs⟩
       have R3 := Aside0.mk (HST.out ▸ hs.rd)
       have HB3 := Aside0.mk (below_weaken HB1.out (below_size HB1.out) ((HW.out.trans hs.chg.below)))
       have BA3 := Aside0.mk ((hs.chg.below.block ga (blk_lt BA1.out)).trans ((HW.out.block ga (blk_lt BA1.out)).trans BA1.out))
       have ka0 : w3.cell? ⟨ga, 0, none⟩ = some (.int .i64 0) := (blk_cell BA3.out 0).trans rfl
       have ka1 : w3.cell? ⟨ga, 1, none⟩ = some (.string (⟨#[]⟩ : ByteArray)) := (blk_cell BA3.out 1).trans rfl
       have ka2 : w3.cell? ⟨ga, 2, none⟩ = some (.int .i64 0) := (blk_cell BA3.out 2).trans rfl
       have ka3 : w3.cell? ⟨ga, 3, none⟩ = some (.slice none 0 0) := (blk_cell BA3.out 3).trans rfl
       have fa0 := blk_frozen BA3.out 0
       have fa1 := blk_frozen BA3.out 1
       have fa2 := blk_frozen BA3.out 2
       have fa3 := blk_frozen BA3.out 3
       clear hs
       rw [HAL.out, errW_none]
       refine ⟨_, rfl, ?_⟩)
    | ((with_reducible refine gate_callee (f := 27) rfl ?_)
       refine goesL_ (some 29) rfl rfl Tryd.func27 (by kernel_rfl) rfl #[.pointer (some ⟨g, 0, none⟩)] rfl (by (try simp only [List.map_toArray, List.map_cons, List.map_nil]); first | done | rfl) ?_
       (with_reducible refine (response_yes _ _ g st v0 v1 R3.out HD.out HF.out).mono ?_)
       rintro e w4 ⟨v, rfl, hr, hb⟩
       obtain ⟨A5, c5, ev, _, _⟩ := Kd.R_reads hr
       subst ev
       have R4 := Aside0.mk (Kd.R_lower hr (below_size HB3.out))
       have HB4 := Aside0.mk (below_step HB3.out hb)
       have BA4 := Aside0.mk (blk_below BA3.out hb)
       clear hb hr
       rw [errW_none]
       refine ⟨_, rfl, ?_⟩)
    | ((with_reducible refine gate_dst (N := 10) rfl ?_)
       refine box_event ?hg (N := 10) ?hd (cs := #[.int .i64 0, .string (⟨#[]⟩ : ByteArray), .int .i64 0, .slice none 0 0]) (t := 26) ?hr ?_
       case hd => rfl
       case hg => rfl
       case hr => first | (go_simp; done) | (go_simp; rfl)
       intro gb hgb w5 hbb hb5
       have HB5 := Aside0.mk (below_step HB4.out hb5)
       have BA5 := Aside0.mk (blk_below BA4.out hb5)
       have BB5 := Aside0.mk hbb
       have R5 := Aside0.mk (Kd.R_below R4.out hb5)
       have GB := Aside0.mk (show w.heap.size ≤ gb by have := below_size HB4.out; omega)
       have NN := Aside0.mk (show ga ≠ gb from fun e => by have := blk_lt BA4.out; omega)
       have n3 : (ga = gb) = False := eq_false NN.out
       have n4 : (gb = ga) = False := eq_false (fun e => NN.out e.symm)
       have kb0 : w5.cell? ⟨ga, 0, none⟩ = some (.int .i64 0) := (blk_cell BA5.out 0).trans rfl
       have kb1 : w5.cell? ⟨ga, 1, none⟩ = some (.string (⟨#[]⟩ : ByteArray)) := (blk_cell BA5.out 1).trans rfl
       have kb2 : w5.cell? ⟨ga, 2, none⟩ = some (.int .i64 0) := (blk_cell BA5.out 2).trans rfl
       have kb3 : w5.cell? ⟨ga, 3, none⟩ = some (.slice none 0 0) := (blk_cell BA5.out 3).trans rfl
       have fb0 := blk_frozen BA5.out 0
       have fb1 := blk_frozen BA5.out 1
       have fb2 := blk_frozen BA5.out 2
       have fb3 := blk_frozen BA5.out 3
       have kc0 : w5.cell? ⟨gb, 0, none⟩ = some (.int .i64 0) := (blk_cell BB5.out 0).trans rfl
       have kc1 : w5.cell? ⟨gb, 1, none⟩ = some (.string (⟨#[]⟩ : ByteArray)) := (blk_cell BB5.out 1).trans rfl
       have kc2 : w5.cell? ⟨gb, 2, none⟩ = some (.int .i64 0) := (blk_cell BB5.out 2).trans rfl
       have kc3 : w5.cell? ⟨gb, 3, none⟩ = some (.slice none 0 0) := (blk_cell BB5.out 3).trans rfl
       have fc0 := blk_frozen BB5.out 0
       have fc1 := blk_frozen BB5.out 1
       have fc2 := blk_frozen BB5.out 2
       have fc3 := blk_frozen BB5.out 3
       clear hgb hbb hb5))
  have BAW := Aside0.mk (blk_far (blk_far (blk_far (blk_far BA5.out (p := ⟨gb, 0, none⟩) NN.out (.int .i64 st.ps)) (p := ⟨gb, 1, none⟩) NN.out (.string st.pr)) (p := ⟨gb, 2, none⟩) NN.out (.int .i64 st.pn)) (p := ⟨gb, 3, none⟩) NN.out (.slice A5 st.field.length c5))
  refine bodyPost_ret (results_ctt rfl _ _ ga 26 #[.int .i64 st.ps, .string st.pr, .int .i64 st.pn, .slice A5 st.field.length c5] (0, 0) _ rfl (blk_put (blk_put (blk_put (blk_put BAW.out 0 _ rfl) 1 _ rfl) 2 _ rfl) 3 _ rfl) Tryd.underlying26 rfl (by kernel_rfl)) rfl ?_
  refine ⟨_, rfl, ?_, ?_⟩
  · have q0 := Kd.R_set R5.out BB5.out (by decide) 0 (.int .i64 st.ps)
    have d0 := blk_set BB5.out 0 (.int .i64 st.ps)
    have q1 := Kd.R_set q0 d0 (by decide) 1 (.string st.pr)
    have d1 := blk_set d0 1 (.string st.pr)
    have q2 := Kd.R_set q1 d1 (by decide) 2 (.int .i64 st.pn)
    have d2 := blk_set d1 2 (.int .i64 st.pn)
    have q3 := Kd.R_set q2 d2 (by decide) 3 (.slice A5 st.field.length c5)
    have r1 := Kd.R_set q3 BAW.out (by decide) 0 (.int .i64 st.ps)
    have b1 := blk_set BAW.out 0 (.int .i64 st.ps)
    have r2 := Kd.R_set r1 b1 (by decide) 1 (.string st.pr)
    have b2 := blk_set b1 1 (.string st.pr)
    have r3 := Kd.R_set r2 b2 (by decide) 2 (.int .i64 st.pn)
    have b3 := blk_set b2 2 (.int .i64 st.pn)
    exact Kd.R_set r3 b3 (by decide) 3 _
  · exact below_set (below_set (below_set (below_set (below_set (below_set (below_set (below_set HB5.out GB.out) GB.out) GB.out) GB.out) GA.out) GA.out) GA.out) GA.out

end Go.Proofs.YtmmlacbcolfngaaDoor.Q
