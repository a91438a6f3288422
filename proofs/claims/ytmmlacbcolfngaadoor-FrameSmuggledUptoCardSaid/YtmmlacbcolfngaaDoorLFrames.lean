/- Plain Lean on what the printed functions answer (Frames); for all arguments that the lemmas name. -/
import Derived.Test.YtmmlacbcolfngaaDoorQ0
import Derived.Test.YtmmlacbcolfngaaDoorLHeads
import Derived.Test.YtmmlacbcolfngaaDoorLTexts
import Derived.Test.YtmmlacbcolfngaaDoorQFrame2
import Derived.Test.YtmmlacbcolfngaaDoorQFrame3
namespace Go.Proofs.YtmmlacbcolfngaaDoor.Q
open Go.RowKit Go.Proofs.YtmmlacbcolfngaaDoorW.PrintWords Go.Proofs.YtmmlacbcolfngaaDoorW.PrintLast Go.Proofs.YtmmlacbcolfngaaDoorW.PrintMore
set_option linter.unusedVariables false
set_option linter.unusedSimpArgs false
def clName : List UInt8 := [67, 111, 110, 116, 101, 110, 116, 45, 76, 101, 110, 103, 116, 104]
def teName : List UInt8 := [84, 114, 97, 110, 115, 102, 101, 114, 45, 69, 110, 99, 111, 100, 105, 110, 103]
def elemsB (v : ByteArray) : List (List UInt8) := elemsL v.data.toList
def lenIn : Option Int → List (List UInt8) → Option (Option Int)
  | st, [] => some st
  | st, x :: l => if (numS 10 1099511627776 x).2 = 0 ∧ (st = none ∨ st = some (numS 10 1099511627776 x).1) then lenIn (some (numS 10 1099511627776 x).1) l else none
def lenOut : Option Int → List (List (List UInt8)) → Option (Option Int)
  | st, [] => some st
  | st, e :: es => if e = [] then none else (lenIn st e).bind fun st' => lenOut st' es
def lenRes : Option (Option Int) → Int × Bool × Int
  | none => (0, false, 3)
  | some none => (0, false, 0)
  | some (some n) => (n, true, 0)
def lengthS (vs : List ByteArray) : Int × Bool × Int := lenRes (lenOut none (vs.map elemsB))
def chunkedS (vs : List ByteArray) : Bool × Int := if vs = [] then (false, 0) else match (vs.map elemsB).flatten with
  | [x] => if lowL x = lowL [99, 104, 117, 110, 107, 101, 100] then (true, 0) else (false, 3)
  | _ => (false, 3)
def commonS (l : List S67) (minor rest : Int) : Int × Int × Int :=
  if (lengthS (valsOf clName l)).2.2 ≠ 0 ∨ (chunkedS (valsOf teName l)).2 ≠ 0 ∨ ((lengthS (valsOf clName l)).2.1 = true ∧ (chunkedS (valsOf teName l)).1 = true) ∨ ((chunkedS (valsOf teName l)).1 = true ∧ minor = 0) then (0, 0, 30)
  else if (chunkedS (valsOf teName l)).1 = true then (2, 0, 0) else if (lengthS (valsOf clName l)).2.1 = true then (1, (lengthS (valsOf clName l)).1, 0) else (rest, 0, 0)
theorem numS_nonneg (x : List UInt8) : 0 ≤ (numS 10 1099511627776 x).1 := by
  unfold numS
  have := valsB_ge 10 (by omega) x 0 (by omega)
  repeat' split
  all_goals first | omega | simp_all
theorem baL_get (ps : List (List UInt8)) (i : Int) (x : List UInt8) (h : ∀ d, ps.getD i.toNat d = x) (hi : i.toNat < ps.length) : rdOf ByteArray.empty (baL ps) i = ⟨x.toArray⟩ := by
  unfold rdOf baL
  have h1 := h []
  rw [List.getD_eq_getElem?_getD, List.getElem?_eq_getElem hi] at h1
  rw [List.getD_eq_getElem?_getD, List.getElem?_map, List.getElem?_eq_getElem hi]
  simp at h1
  simp [h1]
theorem elemsB_sz (v : ByteArray) (n : Nat) (h : v.size ≤ n) : ∀ x ∈ elemsB v, x.length ≤ n := fun x hx => by
  have := (elemsL_mem _ _ hx).2.2.2
  rw [ba_len] at this
  omega
def lst (n : Int) (has : Bool) : Option Int := if has = true then some n else none
def fres (o : Option (Option Int)) : Int × Bool × Option Int := ((lenRes o).1, (lenRes o).2.1, errOf (lenRes o).2.2)
theorem flen_loops (vs : List ByteArray) (hv : ∀ v ∈ vs, v.size ≤ 1048576) (hvl : vs.length ≤ 4398046511104) :
    ∀ (l : List ByteArray) (i : Int) (n : Int) (has : Bool), 0 ≤ i → vs.drop i.toNat = l → i ≤ vs.length → (has = false → n = 0) → Ev (fun k => frame_Length.l0 k n has vs (vs.length : Int) i) (fres (lenOut (lst n has) (l.map elemsB)))
  | [], i, n, has, h0, h, hi, hn => by
    have e := lscan_nil h0 hi h
    refine Ev.step (fun k => by rw [frame_Length.l0]) ?_
    simp only [if_neg (show ¬ i < (vs.length : Int) by omega)]
    cases has
    · rw [hn rfl]
      simpa [lenOut, fres, lenRes, lst, errOf] using Ev.now ((0 : Int), false, (none : Option Int))
    · simpa [lenOut, fres, lenRes, lst, errOf] using Ev.now (n, true, (none : Option Int))
  | v :: l, i, n, has, h0, h, hi, hn => by
    obtain ⟨h2, h3, h4⟩ := lscan_cons h0 h
    have hv1 : rdOf ByteArray.empty vs i = v := h3 _
    have hm : v ∈ vs := by
      have : v ∈ vs.drop i.toNat := by rw [h]; simp
      exact List.mem_of_mem_drop this
    have hvs := hv v hm
    refine Ev.step (fun k => by rw [frame_Length.l0]) ?_
    simp only [if_pos h2, if_pos h0, hv1]
    refine Ev.bind (list_ev v (by omega)) ?_
    have hbl : (baL (elemsL v.data.toList)).length = (elemsB v).length := by simp [baL, elemsB]
    rw [hbl]
    have hel : (elemsB v).length ≤ 1048577 := by have := elemsL_len v.data.toList; rw [ba_len] at this; unfold elemsB; omega
    rw [List.map_cons]
    by_cases he : elemsB v = []
    · simp only [he, List.length_nil, if_pos (show ((0 : Nat) : Int) = 0 from rfl)]
      simpa [lenOut, fres, lenRes, errOf] using Ev.now ((0 : Int), false, some (3 : Int))
    · have hne : ¬ ((elemsB v).length : Int) = 0 := fun h => he (List.eq_nil_of_length_eq_zero (by omega))
      simp only [if_neg hne]
      have hin : ∀ (es : List (List UInt8)) (j : Int) (n : Int) (has : Bool), 0 ≤ j → (elemsB v).drop j.toNat = es → j ≤ (elemsB v).length → (has = false → n = 0) →
          Ev (fun k => frame_Length.l1 k n has vs (vs.length : Int) i (baL (elemsL v.data.toList)) ((elemsB v).length : Int) j) (fres ((lenIn (lst n has) es).bind fun st => lenOut st (l.map elemsB))) := by
        intro es
        induction es with
        | nil =>
          intro j n has g0 g g1 gn
          have e := lscan_nil g0 g1 g
          refine Ev.step (fun k => by rw [frame_Length.l1]) ?_
          simp only [if_neg (show ¬ j < ((elemsB v).length : Int) by omega)]
          rw [wrap_in (n := i + 1) (by omega)]
          exact flen_loops vs hv hvl l (i + 1) n has (by omega) h4 (by omega) gn
        | cons x es ih =>
          intro j n has g0 g g1 gn
          obtain ⟨g2, g3, g4⟩ := lscan_cons g0 g
          have gx := baL_get (elemsB v) j x g3 (by omega)
          have gm : x ∈ elemsB v := by
            have : x ∈ (elemsB v).drop j.toNat := by rw [g]; simp
            exact List.mem_of_mem_drop this
          have gs := elemsB_sz v 1048576 hvs x gm
          have hbl2 : ((baL (elemsL v.data.toList)).length : Int) = ((elemsB v).length : Int) := by rw [hbl]
          refine Ev.step (fun k => by rw [frame_Length.l1]) ?_
          have gx' : rdOf ByteArray.empty (baL (elemsL v.data.toList)) j = ⟨x.toArray⟩ := gx
          simp only [hbl2, if_pos g2, if_pos g0, gx']
          refine Ev.bind (decimal_ev _ (by rw [mk_size]; omega) 1099511627776 (by omega)) ?_
          rw [wrap_in (n := j + 1) (by omega)]
          show Ev (fun k => if (errOf (numS 10 1099511627776 x).2).isNone = true then _ else _) _
          have ih' := ih (j + 1) (numS 10 1099511627776 x).1 true (by omega) g4 (by omega) (fun h => by cases h)
          by_cases hz : (numS 10 1099511627776 x).2 = 0
          · simp only [hz, errOf, if_true, Option.isNone_none]
            cases has
            · simp only [Bool.false_eq_true, if_false]
              simpa [lenIn, hz, lst] using ih'
            · by_cases hnn : (numS 10 1099511627776 x).1 = n
              · simp only [if_true, if_pos hnn]
                simpa [lenIn, hz, lst, hnn] using ih'
              · simp only [if_true, if_neg hnn]
                have hnn' : ¬ n = (numS 10 1099511627776 x).1 := fun h => hnn h.symm
                simpa [lenIn, hz, lst, hnn', fres, lenRes, errOf] using Ev.now ((0 : Int), false, some (3 : Int))
          · simp only [errOf, if_neg hz, Option.isNone_some, Bool.false_eq_true, if_false]
            simpa [lenIn, hz, fres, lenRes, errOf] using Ev.now ((0 : Int), false, some (3 : Int))
      have := hin (elemsB v) 0 n has (by omega) rfl (by omega) hn
      simpa [lenOut, he] using this
theorem flen_ev (l : List S67) (hl : l.length ≤ 4398046511104) (hok : FOk 1048576 l) : Ev (fun k => frame_Length.f k l) ((lengthS (valsOf clName l)).1, (lengthS (valsOf clName l)).2.1, errOf (lengthS (valsOf clName l)).2.2) := by
  unfold frame_Length.f
  refine Ev.bind (values_ev l _ (by decide) (by omega) (fun f hf => by have := hok f hf; omega)) ?_
  have hvl := valsOf_len clName l
  exact flen_loops (valsOf clName l) (valsOf_mem clName l _ hok) (by omega) _ 0 0 false (by omega) rfl (by omega) (fun _ => rfl)
theorem flat_sz (vs : List ByteArray) (hv : ∀ v ∈ vs, v.size ≤ 1048576) : ((vs.map elemsB).flatten).length ≤ vs.length * 1048577 := by
  induction vs with
  | nil => simp
  | cons v vs ih =>
    have h1 := elemsL_len v.data.toList
    rw [ba_len] at h1
    have h2 := hv v (by simp)
    have h3 := ih (fun x hx => hv x (by simp [hx]))
    simp only [List.map_cons, List.flatten_cons, List.length_append, List.length_cons]
    have : (elemsB v).length ≤ 1048577 := by unfold elemsB; omega
    omega
def chkEnd (all : List (List UInt8)) : Bool × Int := match all with
  | [x] => if lowL x = lowL [99, 104, 117, 110, 107, 101, 100] then (true, 0) else (false, 3)
  | _ => (false, 3)
theorem fchk_l0 (vs : List ByteArray) (hv : ∀ v ∈ vs, v.size ≤ 1048576) (hvl : vs.length ≤ 4194304) : ∀ (l : List ByteArray) (acc : List (List UInt8)) (i : Int), 0 ≤ i → vs.drop i.toNat = l → i ≤ vs.length → (acc.length : Int) ≤ i * 1048577 → (∀ x ∈ acc, x.length ≤ 1048576) →
    Ev (fun k => frame_Chunked.l0 k (baL acc) vs (vs.length : Int) i) ((chkEnd (acc ++ (l.map elemsB).flatten)).1, errOf (chkEnd (acc ++ (l.map elemsB).flatten)).2)
  | [], acc, i, h0, h, hi, ha, hs => by
    have e := lscan_nil h0 hi h
    refine Ev.step (fun k => by rw [frame_Chunked.l0]) ?_
    simp only [if_neg (show ¬ i < (vs.length : Int) by omega), List.map_nil, List.flatten_nil, List.append_nil]
    have hbl : (baL acc).length = acc.length := by simp [baL]
    rw [hbl]
    match acc, hs with
    | [], _ => simpa [chkEnd, errOf] using Ev.now (false, some (3 : Int))
    | [x], hs =>
      have hx : rdOf ByteArray.empty (baL [x]) 0 = ⟨x.toArray⟩ := rfl
      have hsz : (⟨x.toArray⟩ : ByteArray).size ≤ 140737488355328 := by rw [mk_size]; have := hs x (by simp); omega
      simp only [List.length_cons, List.length_nil, hx, same_f _ _ hsz (show (⟨#[99, 104, 117, 110, 107, 101, 100]⟩ : ByteArray).size ≤ 140737488355328 by decide), Option.bind_some]
      by_cases hl : lowL x = lowL [99, 104, 117, 110, 107, 101, 100]
      · simpa [chkEnd, errOf, hl] using Ev.now (true, (none : Option Int))
      · simpa [chkEnd, errOf, hl] using Ev.now (false, some (3 : Int))
    | x :: y :: r, _ =>
      have : ¬ (((x :: y :: r).length : Nat) : Int) = 1 := by simp; omega
      simp only [if_neg this]
      simpa [chkEnd, errOf] using Ev.now (false, some (3 : Int))
  | v :: l, acc, i, h0, h, hi, ha, hs => by
    obtain ⟨h2, h3, h4⟩ := lscan_cons h0 h
    have hv1 : rdOf ByteArray.empty vs i = v := h3 _
    have hm : v ∈ vs := by
      have : v ∈ vs.drop i.toNat := by rw [h]; simp
      exact List.mem_of_mem_drop this
    have hvs := hv v hm
    have hel : (elemsB v).length ≤ 1048577 := by have := elemsL_len v.data.toList; rw [ba_len] at this; unfold elemsB; omega
    have hbl : (baL (elemsL v.data.toList)).length = (elemsB v).length := by simp [baL, elemsB]
    have hba : (baL acc).length = acc.length := by simp [baL]
    refine Ev.step (fun k => by rw [frame_Chunked.l0]) ?_
    simp only [if_pos h2, if_pos h0, hv1]
    refine Ev.bind (list_ev v (by omega)) ?_
    rw [hbl, hba]
    simp only [if_pos (show acc.length + (elemsB v).length < 8796093022208 by omega)]
    rw [wrap_in (n := i + 1) (by omega)]
    have e : baL acc ++ baL (elemsL v.data.toList) = baL (acc ++ elemsB v) := by simp [baL, elemsB]
    rw [e]
    have := fchk_l0 vs hv hvl l (acc ++ elemsB v) (i + 1) (by omega) h4 (by omega) (by simp; omega) (fun x hx => by
      rcases List.mem_append.1 hx with hx | hx
      · exact hs x hx
      · exact elemsB_sz v _ hvs x hx)
    simpa using this
theorem fchk_ev (l : List S67) (hl : l.length ≤ 4194304) (hok : FOk 1048576 l) : Ev (fun k => frame_Chunked.f k l) ((chunkedS (valsOf teName l)).1, errOf (chunkedS (valsOf teName l)).2) := by
  unfold frame_Chunked.f
  refine Ev.bind (values_ev l _ (by decide) (by omega) (fun f hf => by have := hok f hf; omega)) ?_
  have hvl := valsOf_len teName l
  show Ev (fun k => if ((valsOf teName l).length : Int) = 0 then _ else frame_Chunked.l0 k (baL []) (valsOf teName l) ((valsOf teName l).length : Int) 0) _
  by_cases he : valsOf teName l = []
  · simp only [he, List.length_nil, if_pos (show ((0 : Nat) : Int) = 0 from rfl)]
    simpa [chunkedS, errOf] using Ev.now (false, (none : Option Int))
  · have hne : ¬ ((valsOf teName l).length : Int) = 0 := fun h => he (List.eq_nil_of_length_eq_zero (by omega))
    simp only [if_neg hne]
    have := fchk_l0 (valsOf teName l) (valsOf_mem teName l _ hok) (by omega) _ [] 0 (by omega) rfl (by omega) (by simp) (by simp)
    have e : chunkedS (valsOf teName l) = chkEnd (((valsOf teName l).map elemsB).flatten) := by unfold chunkedS chkEnd; rw [if_neg he]
    rw [e]
    simpa using this
theorem fcom_ev (l : List S67) (minor rest : Int) (hl : l.length ≤ 4194304) (hok : FOk 1048576 l) : Ev (fun k => frame_common.f k l minor rest) ((commonS l minor rest).1, (commonS l minor rest).2.1, errOf (commonS l minor rest).2.2) := by
  unfold frame_common.f
  refine Ev.bind (flen_ev l (by omega) hok) (Ev.bind (fchk_ev l hl hok) ?_)
  unfold commonS
  generalize lengthS (valsOf clName l) = a
  generalize chunkedS (valsOf teName l) = b
  obtain ⟨n, has, e⟩ := a
  obtain ⟨ch, f⟩ := b
  have hj : ∀ bad : Bool, Ev (fun k => frame_common.j0 k rest n has ch bad) (if bad = true then (0, 0, some 30) else if ch = true then (2, 0, none) else if has = true then (1, n, none) else (rest, 0, none)) := by
    intro bad
    refine Ev.step (fun k => by rw [frame_common.j0]) ?_
    cases bad <;> cases ch <;> cases has <;> exact Ev.now _
  dsimp only
  by_cases he : e = 0
  · by_cases hf : f = 0
    · subst he; subst hf
      simp only [errOf, if_true, Option.isNone_none, ne_eq, not_true_eq_false, false_or]
      cases has
      · cases ch
        · simpa using hj false
        · by_cases hm : minor = 0
          · have e1 : (minor == 0) = true := beq_iff_eq.2 hm
            simp only [e1]
            simpa [hm] using hj true
          · have e1 : (minor == 0) = false := beq_eq_false_iff_ne.2 hm
            simp only [e1]
            simpa [hm] using hj false
      · cases ch
        · simpa using hj false
        · simpa using hj true
    · subst he
      simp only [errOf, if_true, Option.isNone_none, if_neg hf, Option.isNone_some, Bool.false_eq_true, if_false]
      simpa [hf, errOf] using hj true
  · simp only [errOf, if_neg he, Option.isNone_some, Bool.false_eq_true, if_false]
    simpa [he, errOf] using Ev.now ((0 : Int), (0 : Int), some (30 : Int))
theorem freq_ev (a b : ByteArray) (minor : Int) (l : List S67) (hl : l.length ≤ 4194304) (hok : FOk 1048576 l) : Ev (fun k => frame_Request.f k a b minor l) ((commonS l minor 0).1, (commonS l minor 0).2.1, errOf (commonS l minor 0).2.2) := by
  unfold frame_Request.f
  exact Ev.bind (fcom_ev l minor 0 hl hok) (Ev.now _)
def respS (m : List UInt8) (status minor : Int) (l : List S67) : Int × Int × Int := if m = [72, 69, 65, 68] ∨ (100 ≤ status ∧ status < 200) ∨ status = 204 ∨ status = 304 then (0, 0, 0) else commonS l minor 3
theorem fresp_ev (m : ByteArray) (status : Int) (r : ByteArray) (minor : Int) (l : List S67) (hl : l.length ≤ 4194304) (hok : FOk 1048576 l) : Ev (fun k => frame_Response.f k m status r minor l) ((respS m.data.toList status minor l).1, (respS m.data.toList status minor l).2.1, errOf (respS m.data.toList status minor l).2.2) := by
  unfold frame_Response.f respS
  have hc := fcom_ev l minor 3 hl hok
  have hc' : Ev (fun k => (frame_common.f k l minor 3).bind fun p => some (p.1, p.2.1, p.2.2)) ((commonS l minor 3).1, (commonS l minor 3).2.1, errOf (commonS l minor 3).2.2) := Ev.bind hc (Ev.now _)
  have hz : Ev (fun _ => some ((0 : Int), (0 : Int), (none : Option Int))) (0, 0, errOf 0) := Ev.now _
  simp only [ba_toList]
  by_cases h1 : m.data.toList = [72, 69, 65, 68]
  · simpa [h1] using hz
  · by_cases h2 : status ≥ 100
    · by_cases h3 : status < 200
      · simpa [h1, h2, h3] using hz
      · by_cases h4 : status = 204
        · simpa [h1, h4] using hz
        · by_cases h5 : status = 304
          · simpa [h1, h5] using hz
          · simpa only [if_neg h1, if_pos h2, if_neg h3, if_neg h4, if_neg h5, if_neg (show ¬ (m.data.toList = [72, 69, 65, 68] ∨ (100 ≤ status ∧ status < 200) ∨ status = 204 ∨ status = 304) by simp [h1, h4, h5]; omega)] using hc'
    · by_cases h4 : status = 204
      · omega
      · by_cases h5 : status = 304
        · omega
        · simpa only [if_neg h1, if_neg h2, if_neg h4, if_neg h5, if_neg (show ¬ (m.data.toList = [72, 69, 65, 68] ∨ (100 ≤ status ∧ status < 200) ∨ status = 204 ∨ status = 304) by simp [h1, h4, h5]; omega)] using hc'

end Go.Proofs.YtmmlacbcolfngaaDoor.Q
