/- The law HeadFields in plain terms: what its printed function comes to is true; for all arguments that its lemma names. -/
import Derived.Test.YtmmlacbcolfngaaDoorQ0
import Derived.Test.YtmmlacbcolfngaaDoorQOpen
import Derived.Test.YtmmlacbcolfngaaDoorLHeads
import Derived.Test.YtmmlacbcolfngaaDoorLLists
import Derived.Test.YtmmlacbcolfngaaDoorLNumbers
import Derived.Test.YtmmlacbcolfngaaDoorQLawheadfields
import Derived.Test.YtmmlacbcolfngaaDoorQTurnstilelaw09
import Derived.Test.YtmmlacbcolfngaaDoorQTurnstilelaw093
import Derived.Test.YtmmlacbcolfngaaDoorQHead2
import Derived.Test.YtmmlacbcolfngaaDoorQTurnstileref094
import Derived.Test.YtmmlacbcolfngaaDoorQTurnstilelaw09stub
namespace Go.Proofs.YtmmlacbcolfngaaDoor.Q
open Go.RowKit Go.Proofs.YtmmlacbcolfngaaDoorW.PrintWords Go.Proofs.YtmmlacbcolfngaaDoorW.PrintLast Go.Proofs.YtmmlacbcolfngaaDoorW.PrintMore
set_option linter.unusedVariables false
set_option linter.unusedSimpArgs false
theorem sure_f : turnstilelaw09_sure.f = some true := by decide +kernel
theorem num_f (c : Int) : turnstilelaw09_num.f (errOf c) = some c := by
  unfold turnstilelaw09_num.f errOf
  split <;> simp_all
theorem fok_of {n : Nat} (hn : n ≤ 1048576) {l : List S67} (h : ∀ x ∈ l, BS67 n x) : FOk 1048576 l := fun f hf => by
  have := h f hf
  simp only [BS67] at this
  omega
theorem fields_l0 (xs : List S67) (hxs : xs.length ≤ 4398046511104) : ∀ (l : List S67) (i : Int), 0 ≤ i → xs.drop i.toNat = l → i ≤ xs.length → Ev (fun k => turnstilelaw09_fields.l0 k xs xs i) true
  | [], i, h0, h, hi => by
    have e := lscan_nil h0 hi h
    refine Ev.step (fun k => by rw [turnstilelaw09_fields.l0]) ?_
    simp only [if_neg (show ¬ i < (xs.length : Int) by omega)]
    exact Ev.now _
  | f :: l, i, h0, h, hi => by
    obtain ⟨h2, h3, h4⟩ := lscan_cons h0 h
    refine Ev.step (fun k => by rw [turnstilelaw09_fields.l0]) ?_
    simp only [if_pos h2, if_pos h0, beq_self_eq_true, Bool.not_true, Bool.or_self, Bool.false_eq_true, if_false]
    rw [wrap_in (n := i + 1) (by omega)]
    exact fields_l0 xs hxs l (i + 1) (by omega) h4 (by omega)
theorem fields_ev (xs : List S67) (hxs : xs.length ≤ 4398046511104) : Ev (fun k => turnstilelaw09_fields.f k xs xs) true := by
  unfold turnstilelaw09_fields.f
  simp only [if_true]
  exact fields_l0 xs hxs xs 0 (by omega) rfl (by omega)
theorem texts_l0 (xs : List ByteArray) (hxs : xs.length ≤ 4398046511104) : ∀ (l : List ByteArray) (i : Int), 0 ≤ i → xs.drop i.toNat = l → i ≤ xs.length → Ev (fun k => turnstilelaw09_texts.l0 k xs xs i) true
  | [], i, h0, h, hi => by
    have e := lscan_nil h0 hi h
    refine Ev.step (fun k => by rw [turnstilelaw09_texts.l0]) ?_
    simp only [if_neg (show ¬ i < (xs.length : Int) by omega)]
    exact Ev.now _
  | f :: l, i, h0, h, hi => by
    obtain ⟨h2, h3, h4⟩ := lscan_cons h0 h
    refine Ev.step (fun k => by rw [turnstilelaw09_texts.l0]) ?_
    simp only [if_pos h2, if_pos h0, if_true]
    rw [wrap_in (n := i + 1) (by omega)]
    exact texts_l0 xs hxs l (i + 1) (by omega) h4 (by omega)
theorem texts_ev (xs : List ByteArray) (hxs : xs.length ≤ 4398046511104) : Ev (fun k => turnstilelaw09_texts.f k xs xs) true := by
  unfold turnstilelaw09_texts.f
  simp only [if_true]
  exact texts_l0 xs hxs xs 0 (by omega) rfl (by omega)
def oneS (vs : List ByteArray) : ByteArray × Int := if (vs.length : Int) = 0 then ((⟨#[]⟩ : ByteArray), 8) else if (vs.length : Int) = 1 then (rdOf ByteArray.empty vs 0, 0) else ((⟨#[]⟩ : ByteArray), 6)
theorem one_ev (xs : List S67) (nm : ByteArray) (hn : nm.size ≤ 140737488355328) (hxs : xs.length ≤ 8796093022000) (hok : FOk 140737488355328 xs) : Ev (fun k => head_One.f k xs nm) ((oneS (valsOf nm.data.toList xs)).1, errOf (oneS (valsOf nm.data.toList xs)).2) := by
  unfold head_One.f
  refine Ev.bind (values_ev xs nm hn hxs hok) ?_
  generalize valsOf nm.data.toList xs = vs
  unfold oneS
  by_cases h0 : (vs.length : Int) = 0
  · simp only [if_pos h0]
    exact Ev.now _
  · by_cases h1 : (vs.length : Int) = 1
    · simp only [if_neg h0, if_pos h1, if_pos (show 0 < (vs.length : Int) by omega)]
      exact Ev.now _
    · simp only [if_neg h0, if_neg h1]
      exact Ev.now _
theorem rone_ev (xs : List S67) (nm : ByteArray) (hn : nm.size ≤ 140737488355327) (hxs : xs.length ≤ 8796093022000) (hok : FOk 140737488355327 xs) : Ev (fun k => turnstileref09_One.f k xs nm) (oneS (valsOf nm.data.toList xs)) := by
  unfold turnstileref09_One.f
  refine Ev.bind (rvalues_ev xs nm hn hxs hok) ?_
  generalize valsOf nm.data.toList xs = vs
  unfold oneS
  by_cases h0 : (vs.length : Int) = 0
  · simp only [if_pos h0]
    exact Ev.now _
  · by_cases h1 : (vs.length : Int) = 1
    · simp only [if_neg h0, if_pos h1, if_pos (show 0 < (vs.length : Int) by omega)]
      exact Ev.now _
    · simp only [if_neg h0, if_neg h1]
      exact Ev.now _
def anyS (el : List UInt8) (ts : List ByteArray) : Bool := ts.any fun x => decide (lowL x.data.toList = lowL el)
def hasS (el : List UInt8) (vs : List ByteArray) : Bool := vs.any fun v => anyS el (baL (elemsL v.data.toList))
theorem baL_ok {l : List UInt8} {n : Nat} (h : l.length ≤ n) : (∀ x ∈ baL (elemsL l), x.size ≤ n) ∧ (baL (elemsL l)).length ≤ n + 1 := by
  refine ⟨fun x hx => ?_, ?_⟩
  · obtain ⟨y, hy, rfl⟩ := List.mem_map.1 hx
    have := (elemsL_mem l y hy).2.2.2
    rw [mk_size]
    omega
  · unfold baL
    rw [List.length_map]
    have := elemsL_len l
    omega
theorem has_l1 (el : ByteArray) (hel : el.size ≤ 140737488355327) (vs : List ByteArray) (i : Int) (r : Bool) (ts : List ByteArray) (hts : ts.length ≤ 4398046511104) (hsz : ∀ x ∈ ts, x.size ≤ 140737488355327)
    (hc : Ev (fun k => head_Has.l0 k el vs (vs.length : Int) (wrap64 (i + 1))) r) : ∀ (l : List ByteArray) (j : Int), 0 ≤ j → ts.drop j.toNat = l → j ≤ ts.length → Ev (fun k => head_Has.l1 k el vs (vs.length : Int) i ts (ts.length : Int) j) (anyS el.data.toList l || r)
  | [], j, h0, h, hj => by
    have e := lscan_nil h0 hj h
    refine Ev.step (fun k => by rw [head_Has.l1]) ?_
    simp only [if_neg (show ¬ j < (ts.length : Int) by omega)]
    exact hc
  | x :: l, j, h0, h, hj => by
    obtain ⟨h2, h3, h4⟩ := lscan_cons h0 h
    have hx : x.size ≤ 140737488355327 := hsz x (List.mem_of_mem_drop (h ▸ List.mem_cons_self))
    refine Ev.step (fun k => by rw [head_Has.l1]) ?_
    simp only [if_pos h2, if_pos h0, rdOf_get h3, same_f x el (by omega) (by omega), Option.bind_some]
    by_cases hd : lowL x.data.toList = lowL el.data.toList
    · simp only [decide_eq_true hd, if_true]
      refine Ev.congr ?_ (Ev.now _)
      simp [anyS, hd]
    · simp only [decide_eq_false hd, Bool.false_eq_true, if_false]
      rw [wrap_in (n := j + 1) (by omega)]
      have e : anyS el.data.toList (x :: l) = anyS el.data.toList l := by simp [anyS, hd]
      rw [e]
      exact has_l1 el hel vs i r ts hts hsz hc l (j + 1) (by omega) h4 (by omega)
theorem has_l0 (el : ByteArray) (hel : el.size ≤ 140737488355327) (vs : List ByteArray) (hvs : vs.length ≤ 4398046511104) (hsz : ∀ x ∈ vs, x.size ≤ 4294967000) : ∀ (l : List ByteArray) (i : Int), 0 ≤ i → vs.drop i.toNat = l → i ≤ vs.length → Ev (fun k => head_Has.l0 k el vs (vs.length : Int) i) (hasS el.data.toList l)
  | [], i, h0, h, hi => by
    have e := lscan_nil h0 hi h
    refine Ev.step (fun k => by rw [head_Has.l0]) ?_
    simp only [if_neg (show ¬ i < (vs.length : Int) by omega)]
    exact Ev.now _
  | x :: l, i, h0, h, hi => by
    obtain ⟨h2, h3, h4⟩ := lscan_cons h0 h
    have hx : x.size ≤ 4294967000 := hsz x (List.mem_of_mem_drop (h ▸ List.mem_cons_self))
    refine Ev.step (fun k => by rw [head_Has.l0]) ?_
    simp only [if_pos h2, if_pos h0, rdOf_get h3]
    refine Ev.bind (list_ev x hx) ?_
    have hb := baL_ok (l := x.data.toList) (n := 4294967000) (by rw [ba_len]; exact hx)
    have hc := has_l0 el hel vs hvs hsz l (i + 1) (by omega) h4 (by omega)
    refine Ev.congr ?_ (has_l1 el hel vs i (hasS el.data.toList l) (baL (elemsL x.data.toList)) (by omega) (fun y hy => by have := hb.1 y hy; omega) (by rw [wrap_in (n := i + 1) (by omega)]; exact hc) _ 0 (by omega) rfl (by omega))
    simp [hasS]
theorem has_ev (xs : List S67) (nm el : ByteArray) (hn : nm.size ≤ 140737488355328) (hel : el.size ≤ 140737488355327) (hxs : xs.length ≤ 4398046511104) (hok : FOk 1048576 xs) : Ev (fun k => head_Has.f k xs nm el) (hasS el.data.toList (valsOf nm.data.toList xs)) := by
  unfold head_Has.f
  refine Ev.bind (values_ev xs nm hn (by omega) (fun f hf => by have := hok f hf; omega)) ?_
  have hl := valsOf_len nm.data.toList xs
  exact has_l0 el hel _ (by omega) (fun x hx => by have := valsOf_mem nm.data.toList xs 1048576 hok x hx; omega) _ 0 (by omega) rfl (by omega)
theorem rhas_l1 (el : ByteArray) (hel : el.size ≤ 140737488355327) (vs : List ByteArray) (i : Int) (r : Bool) (ts : List ByteArray) (hts : ts.length ≤ 4398046511104) (hsz : ∀ x ∈ ts, x.size ≤ 140737488355327)
    (hc : Ev (fun k => turnstileref09_Has.l0 k el vs (wrap64 (i + 1))) r) : ∀ (l : List ByteArray) (j : Int), 0 ≤ j → ts.drop j.toNat = l → j ≤ ts.length → Ev (fun k => turnstileref09_Has.l1 k el vs i ts j) (anyS el.data.toList l || r)
  | [], j, h0, h, hj => by
    have e := lscan_nil h0 hj h
    refine Ev.step (fun k => by rw [turnstileref09_Has.l1]) ?_
    simp only [if_neg (show ¬ j < (ts.length : Int) by omega)]
    exact hc
  | x :: l, j, h0, h, hj => by
    obtain ⟨h2, h3, h4⟩ := lscan_cons h0 h
    have hx : x.size ≤ 140737488355327 := hsz x (List.mem_of_mem_drop (h ▸ List.mem_cons_self))
    refine Ev.step (fun k => by rw [turnstileref09_Has.l1]) ?_
    simp only [if_pos h2, if_pos h0, rdOf_get h3]
    refine Ev.bind (rsame_ev x el (by omega) (by omega)) ?_
    by_cases hd : lowL x.data.toList = lowL el.data.toList
    · simp only [decide_eq_true hd, if_true]
      refine Ev.congr ?_ (Ev.now _)
      simp [anyS, hd]
    · simp only [decide_eq_false hd, Bool.false_eq_true, if_false]
      rw [wrap_in (n := j + 1) (by omega)]
      have e : anyS el.data.toList (x :: l) = anyS el.data.toList l := by simp [anyS, hd]
      rw [e]
      exact rhas_l1 el hel vs i r ts hts hsz hc l (j + 1) (by omega) h4 (by omega)
theorem rhas_l0 (el : ByteArray) (hel : el.size ≤ 140737488355327) (vs : List ByteArray) (hvs : vs.length ≤ 4398046511104) (hsz : ∀ x ∈ vs, x.size ≤ 4294967000) : ∀ (l : List ByteArray) (i : Int), 0 ≤ i → vs.drop i.toNat = l → i ≤ vs.length → Ev (fun k => turnstileref09_Has.l0 k el vs i) (hasS el.data.toList l)
  | [], i, h0, h, hi => by
    have e := lscan_nil h0 hi h
    refine Ev.step (fun k => by rw [turnstileref09_Has.l0]) ?_
    simp only [if_neg (show ¬ i < (vs.length : Int) by omega)]
    exact Ev.now _
  | x :: l, i, h0, h, hi => by
    obtain ⟨h2, h3, h4⟩ := lscan_cons h0 h
    have hx : x.size ≤ 4294967000 := hsz x (List.mem_of_mem_drop (h ▸ List.mem_cons_self))
    refine Ev.step (fun k => by rw [turnstileref09_Has.l0]) ?_
    simp only [if_pos h2, if_pos h0, rdOf_get h3]
    refine Ev.bind (rlist_ev x hx) ?_
    have hb := baL_ok (l := x.data.toList) (n := 4294967000) (by rw [ba_len]; exact hx)
    have hc := rhas_l0 el hel vs hvs hsz l (i + 1) (by omega) h4 (by omega)
    refine Ev.congr ?_ (rhas_l1 el hel vs i (hasS el.data.toList l) (baL (elemsL x.data.toList)) (by omega) (fun y hy => by have := hb.1 y hy; omega) (by rw [wrap_in (n := i + 1) (by omega)]; exact hc) _ 0 (by omega) rfl (by omega))
    simp [hasS]
theorem rhas_ev (xs : List S67) (nm el : ByteArray) (hn : nm.size ≤ 140737488355327) (hel : el.size ≤ 140737488355327) (hxs : xs.length ≤ 4398046511104) (hok : FOk 1048576 xs) : Ev (fun k => turnstileref09_Has.f k xs nm el) (hasS el.data.toList (valsOf nm.data.toList xs)) := by
  unfold turnstileref09_Has.f
  refine Ev.bind (rvalues_ev xs nm hn (by omega) (fun f hf => by have := hok f hf; omega)) ?_
  have hl := valsOf_len nm.data.toList xs
  exact rhas_l0 el hel _ (by omega) (fun x hx => by have := valsOf_mem nm.data.toList xs 1048576 hok x hx; omega) _ 0 (by omega) rfl (by omega)
theorem HeadFields_pure (n : Nat) (hn : n ≤ 1048576) (a0 : List S67) (a1 : ByteArray) (a2 : ByteArray) (h0 : a0.length + 1 ≤ n ∧ a0.length ≤ 9223372036854775807 ∧ ∀ x ∈ a0, BS67 n x) (h1 : a1.size + 1 ≤ n ∧ a1.size ≤ 9223372036854775807) (h2 : a2.size + 1 ≤ n ∧ a2.size ≤ 9223372036854775807) : ∃ k, turnstilelaw09_HeadFields.f k a0 a1 a2 = some true := by
  have hk := fok_of hn h0.2.2
  have hl := valsOf_len a1.data.toList a0
  refine Ev.rounds ?_
  unfold turnstilelaw09_HeadFields.f
  simp only [List.nil_append, List.length_nil, Nat.zero_add, if_pos (show a0.length < 4398046511104 by omega), Option.bind_some]
  refine Ev.bind (one_ev a0 a1 (by omega) (by omega) (fun f hf => by have := hk f hf; omega)) (Ev.bind (rone_ev a0 a1 (by omega) (by omega) (fun f hf => by have := hk f hf; omega)) (Ev.bind (values_ev a0 a1 (by omega) (by omega) (fun f hf => by have := hk f hf; omega)) (Ev.bind (rvalues_ev a0 a1 (by omega) (by omega) (fun f hf => by have := hk f hf; omega)) (Ev.bind (texts_ev _ (by omega)) ?_))))
  simp only [if_true, num_f, Option.bind_some]
  refine Ev.bind (has_ev a0 a1 a2 (by omega) (by omega) (by omega) hk) (Ev.bind (rhas_ev a0 a1 a2 (by omega) (by omega) (by omega) hk) ?_)
  simp only [beq_self_eq_true, if_true]
  refine Ev.bind (fields_ev a0 (by omega)) ?_
  simp only [if_true, sure_f, Option.bind_some]
  exact Ev.now _

end Go.Proofs.YtmmlacbcolfngaaDoor.Q
