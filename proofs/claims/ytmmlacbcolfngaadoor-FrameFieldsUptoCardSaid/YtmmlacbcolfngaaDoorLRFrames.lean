/- Plain Lean on what the printed functions answer (RFrames); for all arguments that the lemmas name. -/
import Derived.Test.YtmmlacbcolfngaaDoorQ0
import Derived.Test.YtmmlacbcolfngaaDoorLFrames
import Derived.Test.YtmmlacbcolfngaaDoorQTurnstileref11
import Derived.Test.YtmmlacbcolfngaaDoorQTurnstileref112
namespace Go.Proofs.YtmmlacbcolfngaaDoor.Q
open Go.RowKit Go.Proofs.YtmmlacbcolfngaaDoorW.PrintWords Go.Proofs.YtmmlacbcolfngaaDoorW.PrintLast Go.Proofs.YtmmlacbcolfngaaDoorW.PrintMore
set_option linter.unusedVariables false
set_option linter.unusedSimpArgs false
theorem rlen_loops (vs : List ByteArray) (hv : ∀ v ∈ vs, v.size ≤ 1048576) (hvl : vs.length ≤ 4398046511104) :
    ∀ (l : List ByteArray) (i : Int) (st : Option Int), 0 ≤ i → vs.drop i.toNat = l → i ≤ vs.length → (∀ n, st = some n → 0 ≤ n) → (st = none → l ≠ []) → Ev (fun k => turnstileref11_Length.l0 k vs (st.getD (-1)) i) (lenRes (lenOut st (l.map elemsB)))
  | [], i, st, h0, h, hi, hn, hs => by
    have e := lscan_nil h0 hi h
    refine Ev.step (fun k => by rw [turnstileref11_Length.l0]) ?_
    simp only [if_neg (show ¬ i < (vs.length : Int) by omega)]
    cases st with
    | none => exact absurd rfl (hs rfl)
    | some n => exact Ev.now _
  | v :: l, i, st, h0, h, hi, hn, hs => by
    obtain ⟨h2, h3, h4⟩ := lscan_cons h0 h
    have hv1 : rdOf ByteArray.empty vs i = v := h3 _
    have hm : v ∈ vs := by
      have : v ∈ vs.drop i.toNat := by rw [h]; simp
      exact List.mem_of_mem_drop this
    have hvs := hv v hm
    refine Ev.step (fun k => by rw [turnstileref11_Length.l0]) ?_
    simp only [if_pos h2, if_pos h0, hv1]
    refine Ev.bind (rlist_ev v (by omega)) ?_
    have hbl : (baL (elemsL v.data.toList)).length = (elemsB v).length := by simp [baL, elemsB]
    rw [hbl]
    have hel : (elemsB v).length ≤ 1048577 := by have := elemsL_len v.data.toList; rw [ba_len] at this; unfold elemsB; omega
    rw [List.map_cons]
    by_cases he : elemsB v = []
    · simp only [he, List.length_nil, if_pos (show ((0 : Nat) : Int) = 0 from rfl)]
      simpa [lenOut, lenRes] using Ev.now ((0 : Int), false, (3 : Int))
    · have hne : ¬ ((elemsB v).length : Int) = 0 := fun h => he (List.eq_nil_of_length_eq_zero (by omega))
      simp only [if_neg hne]
      have hin : ∀ (es : List (List UInt8)) (j : Int) (st : Option Int), 0 ≤ j → (elemsB v).drop j.toNat = es → j ≤ (elemsB v).length → (∀ n, st = some n → 0 ≤ n) → (st = none → es ≠ []) →
          Ev (fun k => turnstileref11_Length.l1 k vs (st.getD (-1)) i (baL (elemsL v.data.toList)) j) (lenRes ((lenIn st es).bind fun st => lenOut st (l.map elemsB))) := by
        intro es
        induction es with
        | nil =>
          intro j st g0 g g1 gn gs
          have e := lscan_nil g0 g1 g
          refine Ev.step (fun k => by rw [turnstileref11_Length.l1]) ?_
          simp only [hbl, if_neg (show ¬ j < ((elemsB v).length : Int) by omega)]
          rw [wrap_in (n := i + 1) (by omega)]
          exact rlen_loops vs hv hvl l (i + 1) st (by omega) h4 (by omega) gn (fun h => absurd rfl (gs h))
        | cons x es ih =>
          intro j st g0 g g1 gn gs
          obtain ⟨g2, g3, g4⟩ := lscan_cons g0 g
          have gx : rdOf ByteArray.empty (baL (elemsL v.data.toList)) j = ⟨x.toArray⟩ := baL_get (elemsB v) j x g3 (by omega)
          have gm : x ∈ elemsB v := by
            have : x ∈ (elemsB v).drop j.toNat := by rw [g]; simp
            exact List.mem_of_mem_drop this
          have gsz := elemsB_sz v 1048576 hvs x gm
          refine Ev.step (fun k => by rw [turnstileref11_Length.l1]) ?_
          simp only [hbl, if_pos g2, if_pos g0, gx]
          refine Ev.bind (rdecimal_ev _ (by rw [mk_size]; omega) 1099511627776 (by omega)) ?_
          rw [wrap_in (n := j + 1) (by omega)]
          have hnn := numS_nonneg x
          have ih' := ih (j + 1) (some (numS 10 1099511627776 x).1) (by omega) g4 (by omega) (fun n h => by cases h; exact hnn) (fun h => by cases h)
          by_cases hz : (numS 10 1099511627776 x).2 = 0
          · simp only [hz, if_true]
            cases st with
            | none =>
              simp only [Option.getD_none, if_neg (show ¬ (-1 : Int) ≥ 0 by omega)]
              simpa [lenIn, hz] using ih'
            | some n =>
              have hn0 := gn n rfl
              simp only [Option.getD_some, if_pos (show n ≥ 0 by omega)]
              by_cases hq : (numS 10 1099511627776 x).1 = n
              · simp only [if_pos hq]
                simpa [lenIn, hz, hq] using ih'
              · simp only [if_neg hq]
                have hq' : ¬ n = (numS 10 1099511627776 x).1 := fun h => hq h.symm
                simpa [lenIn, hz, hq', lenRes] using Ev.now ((0 : Int), false, (3 : Int))
          · simp only [if_neg hz]
            simpa [lenIn, hz, lenRes] using Ev.now ((0 : Int), false, (3 : Int))
      have := hin (elemsB v) 0 st (by omega) rfl (by omega) hn (fun _ => he)
      simpa [lenOut, he] using this
theorem rlen_ev (l : List S67) (hl : l.length ≤ 4398046511104) (hok : FOk 1048576 l) : Ev (fun k => turnstileref11_Length.f k l) (lengthS (valsOf clName l)) := by
  unfold turnstileref11_Length.f
  refine Ev.bind (rvalues_ev l _ (by decide) (by omega) (fun f hf => by have := hok f hf; omega)) ?_
  have hvl := valsOf_len clName l
  show Ev (fun k => if ((valsOf clName l).length : Int) = 0 then _ else turnstileref11_Length.l0 k (valsOf clName l) (-1) 0) _
  by_cases he : valsOf clName l = []
  · simp only [he, List.length_nil, if_pos (show ((0 : Nat) : Int) = 0 from rfl)]
    exact Ev.now _
  · have hne : ¬ ((valsOf clName l).length : Int) = 0 := fun h => he (List.eq_nil_of_length_eq_zero (by omega))
    simp only [if_neg hne]
    exact rlen_loops (valsOf clName l) (valsOf_mem clName l _ hok) (by omega) _ 0 none (by omega) rfl (by omega) (fun _ h => by cases h) (fun _ => he)
theorem rchk_l0 (vs : List ByteArray) (hv : ∀ v ∈ vs, v.size ≤ 1048576) (hvl : vs.length ≤ 4194304) : ∀ (l : List ByteArray) (acc : List (List UInt8)) (i : Int), 0 ≤ i → vs.drop i.toNat = l → i ≤ vs.length → (acc.length : Int) ≤ i * 1048577 → (∀ x ∈ acc, x.length ≤ 1048576) →
    Ev (fun k => turnstileref11_Chunked.l0 k vs (baL acc) i) (chkEnd (acc ++ (l.map elemsB).flatten))
  | [], acc, i, h0, h, hi, ha, hs => by
    have e := lscan_nil h0 hi h
    refine Ev.step (fun k => by rw [turnstileref11_Chunked.l0]) ?_
    simp only [if_neg (show ¬ i < (vs.length : Int) by omega), List.map_nil, List.flatten_nil, List.append_nil]
    have hbl : (baL acc).length = acc.length := by simp [baL]
    rw [hbl]
    match acc, hs with
    | [], _ => simpa [chkEnd] using Ev.now (false, (3 : Int))
    | [x], hs =>
      have hx : rdOf ByteArray.empty (baL [x]) 0 = ⟨x.toArray⟩ := rfl
      have hsz : (⟨x.toArray⟩ : ByteArray).size ≤ 140737488355327 := by rw [mk_size]; have := hs x (by simp); omega
      simp only [List.length_cons, List.length_nil, hx, show ((0 + 1 : Nat) : Int) = 1 from rfl, if_true, if_pos (show (0 : Int) < 1 by omega)]
      refine Ev.bind (rsame_ev _ _ hsz (show (⟨#[99, 104, 117, 110, 107, 101, 100]⟩ : ByteArray).size ≤ 140737488355327 by decide)) ?_
      by_cases hl : lowL x = lowL [99, 104, 117, 110, 107, 101, 100]
      · simpa [chkEnd, hl] using Ev.now (true, (0 : Int))
      · simpa [chkEnd, hl] using Ev.now (false, (3 : Int))
    | x :: y :: r, _ =>
      have : ¬ (((x :: y :: r).length : Nat) : Int) = 1 := by simp; omega
      simp only [if_neg this]
      simpa [chkEnd] using Ev.now (false, (3 : Int))
  | v :: l, acc, i, h0, h, hi, ha, hs => by
    obtain ⟨h2, h3, h4⟩ := lscan_cons h0 h
    have hv1 : rdOf ByteArray.empty vs i = v := h3 _
    have hm : v ∈ vs := by
      have : v ∈ vs.drop i.toNat := by rw [h]; simp
      exact List.mem_of_mem_drop this
    have hvs := hv v hm
    have hel : (elemsB v).length ≤ 1048577 := by have := elemsL_len v.data.toList; rw [ba_len] at this; unfold elemsB; omega
    have hbl : (baL (elemsL v.data.toList)).length = (elemsB v).length := by simp [baL, elemsB]
    have hba : (baL acc).length = acc.length := by simp [baL]
    refine Ev.step (fun k => by rw [turnstileref11_Chunked.l0]) ?_
    simp only [if_pos h2, if_pos h0, hv1]
    refine Ev.bind (rlist_ev v (by omega)) ?_
    rw [hbl, hba]
    simp only [if_pos (show acc.length + (elemsB v).length < 8796093022208 by omega)]
    rw [wrap_in (n := i + 1) (by omega)]
    have e : baL acc ++ baL (elemsL v.data.toList) = baL (acc ++ elemsB v) := by simp [baL, elemsB]
    rw [e]
    have := rchk_l0 vs hv hvl l (acc ++ elemsB v) (i + 1) (by omega) h4 (by omega) (by simp; omega) (fun x hx => by
      rcases List.mem_append.1 hx with hx | hx
      · exact hs x hx
      · exact elemsB_sz v _ hvs x hx)
    simpa using this
theorem rchk_ev (l : List S67) (hl : l.length ≤ 4194304) (hok : FOk 1048576 l) : Ev (fun k => turnstileref11_Chunked.f k l) (chunkedS (valsOf teName l)) := by
  unfold turnstileref11_Chunked.f
  refine Ev.bind (rvalues_ev l _ (by decide) (by omega) (fun f hf => by have := hok f hf; omega)) ?_
  have hvl := valsOf_len teName l
  show Ev (fun k => if ((valsOf teName l).length : Int) = 0 then _ else turnstileref11_Chunked.l0 k (valsOf teName l) (baL []) 0) _
  by_cases he : valsOf teName l = []
  · simp only [he, List.length_nil, if_pos (show ((0 : Nat) : Int) = 0 from rfl)]
    simpa [chunkedS] using Ev.now (false, (0 : Int))
  · have hne : ¬ ((valsOf teName l).length : Int) = 0 := fun h => he (List.eq_nil_of_length_eq_zero (by omega))
    simp only [if_neg hne]
    have := rchk_l0 (valsOf teName l) (valsOf_mem teName l _ hok) (by omega) _ [] 0 (by omega) rfl (by omega) (by simp) (by simp)
    have e : chunkedS (valsOf teName l) = chkEnd (((valsOf teName l).map elemsB).flatten) := by unfold chunkedS chkEnd; rw [if_neg he]
    rw [e]
    simpa using this
theorem chk_te (vs : List ByteArray) : (chunkedS vs).2 = 0 → ((chunkedS vs).1 = true ↔ vs ≠ []) := by
  unfold chunkedS
  by_cases he : vs = []
  · simp [he]
  · rw [if_neg he]
    intro h
    split at h
    · split at h
      · rename_i h1; simp [h1, he]
      · simp at h
    · simp at h
theorem rof_ev (l : List S67) (minor rest : Int) (hl : l.length ≤ 4194304) (hok : FOk 1048576 l) : Ev (fun k => turnstileref11_of.f k minor l rest) (commonS l minor rest) := by
  unfold turnstileref11_of.f
  refine Ev.bind (rlen_ev l (by omega) hok) (Ev.bind (rchk_ev l hl hok) (Ev.bind (rvalues_ev l _ (by decide) (by omega) (fun f hf => by have := hok f hf; omega)) ?_))
  show Ev (fun k => if (lengthS (valsOf clName l)).2.2 = 0 then if (chunkedS (valsOf teName l)).2 = 0 then if (lengthS (valsOf clName l)).2.1 = true then if ((valsOf teName l).length : Int) > 0 then _ else _ else if ((valsOf teName l).length : Int) > 0 then _ else _ else _ else _) _
  have hte := chk_te (valsOf teName l)
  have hlen : ((valsOf teName l).length : Int) > 0 ↔ valsOf teName l ≠ [] := by
    constructor
    · intro h e; rw [e] at h; simp at h
    · intro h; have := List.length_pos_iff.2 h; omega
  unfold commonS
  generalize lengthS (valsOf clName l) = a
  generalize chunkedS (valsOf teName l) = b at hte
  generalize valsOf teName l = vs at hte hlen
  obtain ⟨n, has, e⟩ := a
  obtain ⟨ch, f⟩ := b
  have hj : ∀ bad : Bool, Ev (fun k => turnstileref11_of.j0 k rest n has ch bad) (if bad = true then (0, 0, 30) else if ch = true then (2, 0, 0) else if has = true then (1, n, 0) else (rest, 0, 0)) := by
    intro bad
    refine Ev.step (fun k => by rw [turnstileref11_of.j0]) ?_
    cases bad <;> cases ch <;> cases has <;> exact Ev.now _
  dsimp only at hte ⊢
  by_cases he : e = 0
  · by_cases hf : f = 0
    · subst he; subst hf
      have hte' := hte rfl
      simp only [if_true, ne_eq, not_true_eq_false, false_or]
      cases ch
      · have hv : vs = [] := by
          by_cases hv : vs = []
          · exact hv
          · exact absurd (hte'.2 hv) (by simp)
        have hl0 : ¬ ((vs.length : Int) > 0) := fun h => (hlen.1 h) hv
        simp only [if_neg hl0]
        cases has <;> simpa using hj false
      · have hl0 : (vs.length : Int) > 0 := hlen.2 (hte'.1 rfl)
        simp only [if_pos hl0]
        cases has
        · by_cases hm : minor = 0
          · have e1 : (minor == 0) = true := beq_iff_eq.2 hm
            simp only [e1]
            simpa [hm] using hj true
          · have e1 : (minor == 0) = false := beq_eq_false_iff_ne.2 hm
            simp only [e1]
            simpa [hm] using hj false
        · simpa using hj true
    · subst he
      simp only [if_true, if_neg hf]
      simpa [hf] using hj true
  · simp only [if_neg he]
    simpa [he] using hj true
theorem rreq_ev (a b : ByteArray) (minor : Int) (l : List S67) (hl : l.length ≤ 4194304) (hok : FOk 1048576 l) : Ev (fun k => turnstileref11_Request.f k a b minor l) (commonS l minor 0) := by
  unfold turnstileref11_Request.f
  exact Ev.bind (rof_ev l minor 0 hl hok) (Ev.now _)
theorem rresp_ev (m : ByteArray) (status : Int) (r : ByteArray) (minor : Int) (l : List S67) (hl : l.length ≤ 4194304) (hok : FOk 1048576 l) : Ev (fun k => turnstileref11_Response.f k m status r minor l) (respS m.data.toList status minor l) := by
  unfold turnstileref11_Response.f respS
  have hc := rof_ev l minor 3 hl hok
  have hc' : Ev (fun k => (turnstileref11_of.f k minor l 3).bind fun p => some (p.1, p.2.1, p.2.2)) (commonS l minor 3) := Ev.bind hc (Ev.now _)
  have hz : Ev (fun _ => some ((0 : Int), (0 : Int), (0 : Int))) (0, 0, 0) := Ev.now _
  simp only [ba_toList]
  by_cases h1 : m.data.toList = [72, 69, 65, 68]
  · simpa [h1] using hz
  · by_cases h2 : status ≥ 100
    · by_cases h3 : status ≤ 199
      · have : status < 200 := by omega
        simpa [h1, h2, h3, this] using hz
      · by_cases h4 : status = 204
        · simpa [h1, h4] using hz
        · by_cases h5 : status = 304
          · simpa [h1, h5] using hz
          · simpa only [if_neg h1, if_pos h2, if_neg h3, if_neg h4, if_neg h5, if_neg (show ¬ (m.data.toList = [72, 69, 65, 68] ∨ (100 ≤ status ∧ status < 200) ∨ status = 204 ∨ status = 304) by simp [h1, h4, h5]; omega)] using hc'
    · by_cases h4 : status = 204
      · omega
      · by_cases h5 : status = 304
        · omega
        · simpa only [if_neg h1, if_neg h2, if_neg h4, if_neg h5, if_neg (show ¬ (m.data.toList = [72, 69, 65, 68] ∨ (100 ≤ status ∧ status < 200) ∨ status = 204 ∨ status = 304) by simp [h1, h4, h5]; omega)] using hc'

end Go.Proofs.YtmmlacbcolfngaaDoor.Q
