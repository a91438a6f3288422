/- Plain Lean on what the printed functions answer (Numbers); for all arguments that the lemmas name. -/
import Derived.Test.YtmmlacbcolfngaaDoorQ0
import Derived.Test.YtmmlacbcolfngaaDoorLHex
import Derived.Test.YtmmlacbcolfngaaDoorQChars
import Derived.Test.YtmmlacbcolfngaaDoorQTurnstileref016
namespace Go.Proofs.YtmmlacbcolfngaaDoor.Q
open Go.RowKit Go.Proofs.YtmmlacbcolfngaaDoorW.PrintWords Go.Proofs.YtmmlacbcolfngaaDoorW.PrintLast Go.Proofs.YtmmlacbcolfngaaDoorW.PrintMore
set_option linter.unusedVariables false
set_option linter.unusedSimpArgs false
def dgV (b : UInt8) : Int := (hexV (b.toNat : Int)).1
def dgOk (base : Int) (b : UInt8) : Bool := (hexV (b.toNat : Int)).2 && decide (dgV b < base)
def valsB (base : Int) : Int → List UInt8 → Int
  | n, [] => n
  | n, b :: l => valsB base (n * base + dgV b) l
theorem dgV_range (b : UInt8) : 0 ≤ dgV b ∧ dgV b ≤ 15 := by
  have hb := byte_range b
  exact byte_all (p := fun c => 0 ≤ (hexV c).1 ∧ (hexV c).1 ≤ 15) (by decide +kernel) _ hb.1 hb.2
theorem valsB_ge (base : Int) (hb : 1 ≤ base) : ∀ (l : List UInt8) (n : Int), 0 ≤ n → n ≤ valsB base n l
  | [], n, _ => Int.le_refl _
  | b :: l, n, h => by
    have hd := dgV_range b
    have h1 : n ≤ n * base := by
      have := Int.mul_le_mul_of_nonneg_left hb h
      simpa using this
    have := valsB_ge base hb l (n * base + dgV b) (by omega)
    simp only [valsB]
    omega
theorem over_iff (base most n d : Int) (hb : 1 ≤ base) (hd : 0 ≤ d) (hdm : d ≤ most) : n > (most - d) / base ↔ n * base + d > most := by
  have h := Int.ediv_lt_iff_lt_mul (a := most - d) (b := n) (c := base) (by omega)
  constructor
  · intro h1; have := h.1 h1; omega
  · intro h1; exact h.2 (by omega)
def numR (base most : Int) (far : Bool) (n : Int) (l : List UInt8) : Int × Option Int := if l.all (dgOk base) = true then (if far = true ∨ valsB base n l > most then (0, some 4) else (valsB base n l, none)) else (0, some 3)
theorem numR_cons_bad (base most : Int) (far : Bool) (n : Int) (b : UInt8) (l : List UInt8) (h : dgOk base b = false) : numR base most far n (b :: l) = (0, some 3) := by simp [numR, h]
theorem numR_cons_far (base most : Int) (n m : Int) (b : UInt8) (l : List UInt8) (h : dgOk base b = true) : numR base most true n (b :: l) = numR base most true m l := by simp [numR, h]
theorem numR_cons_over (base most : Int) (n m : Int) (b : UInt8) (l : List UInt8) (hb : 1 ≤ base) (hn : 0 ≤ n) (h : dgOk base b = true) (ho : n * base + dgV b > most) : numR base most false n (b :: l) = numR base most true m l := by
  have hd := dgV_range b
  have h1 : 0 ≤ n * base := Int.mul_nonneg hn (by omega)
  have := valsB_ge base hb l (n * base + dgV b) (by omega)
  simp only [numR, List.all_cons, h, Bool.true_and, valsB, true_or, if_true]
  simp only [Bool.false_eq_true, false_or]
  rw [if_pos (show valsB base (n * base + dgV b) l > most by omega)]
theorem numR_cons_go (base most : Int) (n : Int) (b : UInt8) (l : List UInt8) (h : dgOk base b = true) : numR base most false n (b :: l) = numR base most false (n * base + dgV b) l := by simp [numR, h, valsB]
theorem number_l0 (s : ByteArray) (hs : s.size ≤ 9223372036854775807) (hne : s.data.toList ≠ []) (base most : Int) (hb : 2 ≤ base) (hb2 : base ≤ 16) (hm : 0 ≤ most) (hm2 : most ≤ 9223372036854775807) :
    ∀ (l : List UInt8) (i n : Int) (far : Bool), 0 ≤ i → i ≤ s.size → 0 ≤ n → n ≤ most → s.data.toList.drop i.toNat = l → Ev (fun k => chars_number.l0 k s base most n far i) (numR base most far n l)
  | [], i, n, far, h0, h1, hn0, hn1, h => by
    have e := scan_nil h0 h1 h
    refine Ev.step (fun k => by rw [chars_number.l0]) ?_
    simp only [if_neg (show ¬ i < (s.size : Int) by omega), ba_toList, if_neg hne]
    cases far
    · simp only [Bool.false_eq_true, if_false]
      simpa [numR, valsB, show ¬ most < n by omega] using Ev.now (n, (none : Option Int))
    · simpa [numR] using Ev.now ((0 : Int), some (4 : Int))
  | b :: l, i, n, far, h0, h1, hn0, hn1, h => by
    obtain ⟨h2, h3, h4⟩ := scan_cons h0 h
    have hbr := byte_range b
    have hd := dgV_range b
    refine Ev.step (fun k => by rw [chars_number.l0]) ?_
    simp only [if_pos h2, if_pos h0, h3]
    refine Ev.bind (hex_ev _ hbr.1 hbr.2) ?_
    have hw : wrap64 (i + 1) = i + 1 := wrap_in (by omega)
    have hj : ∀ bad : Bool, bad = !dgOk base b → Ev (fun k => chars_number.j1 k s base most n far i (dgV b) bad) (numR base most far n (b :: l)) := by
      intro bad hbad
      refine Ev.step (fun k => by rw [chars_number.j1]) ?_
      cases hok : dgOk base b
      · rw [hbad, hok, numR_cons_bad _ _ _ _ _ _ hok]
        exact Ev.now _
      · rw [hbad, hok, hw]
        simp only [Bool.not_true, Bool.false_eq_true, if_false]
        cases far
        · simp only [Bool.false_eq_true, if_false, if_neg (show ¬ base = 0 by omega)]
          have hsub : wrap64 (most - dgV b) = most - dgV b := wrap_in (by omega)
          rw [hsub]
          by_cases hlt : most < dgV b
          · have hov : n * base + dgV b > most := by have := Int.mul_nonneg hn0 (show 0 ≤ base by omega); omega
            have ih := number_l0 s hs hne base most hb hb2 hm hm2 l (i + 1) n true (by omega) (by omega) hn0 hn1 h4
            rw [numR_cons_over base most n n b l (by omega) hn0 hok hov]
            by_cases hq : n > wrap64 ((most - dgV b).tdiv base)
            · simpa only [if_pos hq] using ih
            · simpa only [if_neg hq, if_pos hlt] using ih
          · have htd : (most - dgV b).tdiv base = (most - dgV b) / base := Int.tdiv_eq_ediv_of_nonneg (by omega)
            have hle : (most - dgV b) / base ≤ most - dgV b := Int.ediv_le_self _ (by omega)
            have hge : 0 ≤ (most - dgV b) / base := Int.ediv_nonneg (by omega) (by omega)
            rw [htd, wrap_in (n := (most - dgV b) / base) (by omega)]
            by_cases hq : n > (most - dgV b) / base
            · have hov := (over_iff base most n (dgV b) (by omega) hd.1 (by omega)).1 hq
              have ih := number_l0 s hs hne base most hb hb2 hm hm2 l (i + 1) n true (by omega) (by omega) hn0 hn1 h4
              rw [numR_cons_over base most n n b l (by omega) hn0 hok hov]
              simpa only [if_pos hq] using ih
            · have hov : ¬ n * base + dgV b > most := fun h => hq ((over_iff base most n (dgV b) (by omega) hd.1 (by omega)).2 h)
              have hnb := Int.mul_nonneg hn0 (show 0 ≤ base by omega)
              have ih := number_l0 s hs hne base most hb hb2 hm hm2 l (i + 1) (n * base + dgV b) false (by omega) (by omega) (by omega) (by omega) h4
              rw [numR_cons_go base most n b l hok]
              rw [wrap_in (n := n * base) (by omega), wrap_in (n := n * base + dgV b) (by omega)]
              simpa only [if_neg hq, if_neg hlt] using ih
        · have ih := number_l0 s hs hne base most hb hb2 hm hm2 l (i + 1) n true (by omega) (by omega) hn0 hn1 h4
          rw [numR_cons_far base most n n b l hok]
          simpa only [if_true] using ih
    by_cases hv : (hexV (b.toNat : Int)).2 = true
    · simp only [if_pos hv]
      refine hj _ ?_
      simp only [dgOk, hv, Bool.true_and]
      by_cases hlt : dgV b < base
      · simp [hlt, show ¬ base ≤ (hexV (b.toNat : Int)).1 from by have : dgV b < base := hlt; unfold dgV at this; omega]
      · simp [hlt, show base ≤ (hexV (b.toNat : Int)).1 from by have : ¬ dgV b < base := hlt; unfold dgV at this; omega]
    · simp only [if_neg hv]
      refine hj _ ?_
      simp [dgOk, hv]
def numS (base most : Int) (l : List UInt8) : Int × Int := if most < 0 then (0, 1) else if l = [] then (0, 3) else if l.all (dgOk base) = true then (if valsB base 0 l > most then (0, 4) else (valsB base 0 l, 0)) else (0, 3)
def errOf (c : Int) : Option Int := if c = 0 then none else some c
theorem number_ev (s : ByteArray) (hs : s.size ≤ 9223372036854775807) (base most : Int) (hb : 2 ≤ base) (hb2 : base ≤ 16) (hm2 : most ≤ 9223372036854775807) :
    Ev (fun k => chars_number.f k s base most) ((numS base most s.data.toList).1, errOf (numS base most s.data.toList).2) := by
  unfold chars_number.f numS
  by_cases hm : most < 0
  · simp only [if_pos hm]
    exact Ev.now (0, some 1)
  · simp only [if_neg hm]
    by_cases hne : s.data.toList = []
    · have hsz : s.size = 0 := by rw [← ba_len, hne]; rfl
      simp only [if_pos hne]
      refine Ev.step (fun k => by rw [chars_number.l0]) ?_
      simp only [if_neg (show ¬ (0 : Int) < (s.size : Int) by omega), ba_toList, if_pos hne]
      exact Ev.now (0, some 3)
    · simp only [if_neg hne, ba_toList, show (s.data.toList == ([] : List UInt8)) = false from beq_eq_false_iff_ne.2 hne]
      have := number_l0 s hs hne base most hb hb2 (by omega) hm2 _ 0 0 false (by omega) (by omega) (by omega) (by omega) rfl
      simp only [Int.toNat_zero, List.drop_zero] at this
      refine Ev.congr (fun _ => rfl) ?_
      have e : numR base most false 0 s.data.toList = ((if s.data.toList.all (dgOk base) = true then if valsB base 0 s.data.toList > most then (0, 4) else (valsB base 0 s.data.toList, 0) else (0, 3) : Int × Int).1, errOf (if s.data.toList.all (dgOk base) = true then if valsB base 0 s.data.toList > most then (0, 4) else (valsB base 0 s.data.toList, 0) else (0, 3) : Int × Int).2) := by
        unfold numR
        by_cases h1 : s.data.toList.all (dgOk base) = true
        · by_cases h2 : valsB base 0 s.data.toList > most <;> simp [h1, h2, errOf]
        · simp [h1, errOf]
      rw [← e]
      exact this
theorem decimal_ev (s : ByteArray) (hs : s.size ≤ 9223372036854775807) (most : Int) (hm2 : most ≤ 9223372036854775807) : Ev (fun k => chars_Decimal.f k s most) ((numS 10 most s.data.toList).1, errOf (numS 10 most s.data.toList).2) := by
  unfold chars_Decimal.f
  exact Ev.bind (number_ev s hs 10 most (by omega) (by omega) hm2) (Ev.now _)
def numQ (base most : Int) (n : Int) (l : List UInt8) : Int × Int := if valsB base n l > most then (0, 4) else (valsB base n l, 0)
theorem rnumber_l1 (s : ByteArray) (hs : s.size ≤ 9223372036854775807) (base most : Int) (hb : 2 ≤ base) (hb2 : base ≤ 16) (hm : 0 ≤ most) (hm2 : most ≤ 9223372036854775807) :
    ∀ (l : List UInt8) (i n : Int), 0 ≤ i → i ≤ s.size → 0 ≤ n → n ≤ most → s.data.toList.drop i.toNat = l → Ev (fun k => turnstileref01_number.l1 k s base most n i) (numQ base most n l)
  | [], i, n, h0, h1, hn0, hn1, h => by
    have e := scan_nil h0 h1 h
    refine Ev.step (fun k => by rw [turnstileref01_number.l1]) ?_
    simp only [if_neg (show ¬ i < (s.size : Int) by omega)]
    simpa [numQ, valsB, show ¬ most < n by omega] using Ev.now (n, (0 : Int))
  | b :: l, i, n, h0, h1, hn0, hn1, h => by
    obtain ⟨h2, h3, h4⟩ := scan_cons h0 h
    have hbr := byte_range b
    have hd := dgV_range b
    refine Ev.step (fun k => by rw [turnstileref01_number.l1]) ?_
    simp only [if_pos h2, if_pos h0, h3]
    refine Ev.bind (rhex_ev _ hbr.1 hbr.2) ?_
    have hw : wrap64 (i + 1) = i + 1 := wrap_in (by omega)
    show Ev (fun k => if dgV b > most then some ((0 : Int), (4 : Int)) else if base = 0 then none else if n > wrap64 ((wrap64 (most - dgV b)).tdiv base) then some (0, 4) else turnstileref01_number.l1 k s base most (wrap64 (wrap64 (n * base) + dgV b)) (wrap64 (i + 1))) _
    rw [hw]
    have hnb := Int.mul_nonneg hn0 (show 0 ≤ base by omega)
    have hge := valsB_ge base (by omega) l (n * base + dgV b) (by omega)
    by_cases hlt : dgV b > most
    · simp only [if_pos hlt]
      have : numQ base most n (b :: l) = (0, 4) := if_pos (show valsB base n (b :: l) > most from (by show valsB base (n * base + dgV b) l > most; omega))
      rw [this]
      exact Ev.now _
    · have htd : (most - dgV b).tdiv base = (most - dgV b) / base := Int.tdiv_eq_ediv_of_nonneg (by omega)
      have hle : (most - dgV b) / base ≤ most - dgV b := Int.ediv_le_self _ (by omega)
      have hge0 : 0 ≤ (most - dgV b) / base := Int.ediv_nonneg (by omega) (by omega)
      rw [wrap_in (n := most - dgV b) (by omega), htd, wrap_in (n := (most - dgV b) / base) (by omega)]
      simp only [if_neg hlt, if_neg (show ¬ base = 0 by omega)]
      by_cases hq : n > (most - dgV b) / base
      · have hov := (over_iff base most n (dgV b) (by omega) hd.1 (by omega)).1 hq
        simp only [if_pos hq]
        have : numQ base most n (b :: l) = (0, 4) := if_pos (show valsB base n (b :: l) > most from (by show valsB base (n * base + dgV b) l > most; omega))
        rw [this]
        exact Ev.now _
      · have hov : ¬ n * base + dgV b > most := fun h => hq ((over_iff base most n (dgV b) (by omega) hd.1 (by omega)).2 h)
        simp only [if_neg hq]
        rw [wrap_in (n := n * base) (by omega), wrap_in (n := n * base + dgV b) (by omega)]
        have : numQ base most n (b :: l) = numQ base most (n * base + dgV b) l := rfl
        rw [this]
        exact rnumber_l1 s hs base most hb hb2 hm hm2 l (i + 1) _ (by omega) (by omega) (by omega) (by omega) h4
theorem rnumber_l0 (s : ByteArray) (hs : s.size ≤ 9223372036854775807) (base most : Int) (hb : 2 ≤ base) (hb2 : base ≤ 16) (hm : 0 ≤ most) (hm2 : most ≤ 9223372036854775807) :
    ∀ (l : List UInt8) (i : Int), 0 ≤ i → i ≤ s.size → s.data.toList.drop i.toNat = l → Ev (fun k => turnstileref01_number.l0 k s base most i) (if l.all (dgOk base) = true then (if s.data.toList = [] then (0, 3) else numQ base most 0 s.data.toList) else (0, 3))
  | [], i, h0, h1, h => by
    have e := scan_nil h0 h1 h
    refine Ev.step (fun k => by rw [turnstileref01_number.l0]) ?_
    simp only [if_neg (show ¬ i < (s.size : Int) by omega), List.all_nil, if_true]
    by_cases hne : s.data.toList = []
    · have hsz : s.size = 0 := by rw [← ba_len, hne]; rfl
      simp only [if_pos hne, if_pos (show (s.size : Int) = 0 by omega)]
      exact Ev.now _
    · have hsz : ¬ (s.size : Int) = 0 := fun h => hne (List.eq_nil_of_length_eq_zero (by rw [ba_len]; omega))
      simp only [if_neg hne, if_neg hsz]
      exact rnumber_l1 s hs base most hb hb2 hm hm2 _ 0 0 (by omega) (by omega) (by omega) hm rfl
  | b :: l, i, h0, h1, h => by
    obtain ⟨h2, h3, h4⟩ := scan_cons h0 h
    have hbr := byte_range b
    refine Ev.step (fun k => by rw [turnstileref01_number.l0]) ?_
    simp only [if_pos h2, if_pos h0, h3]
    refine Ev.bind (rhex_ev _ hbr.1 hbr.2) ?_
    rw [wrap_in (n := i + 1) (by omega)]
    by_cases hv : (hexV (b.toNat : Int)).2 = true
    · simp only [if_pos hv]
      by_cases hlt : dgV b < base
      · have hlt' : ¬ (hexV (b.toNat : Int)).1 ≥ base := by have h5 := hlt; unfold dgV at h5; omega
        simp only [if_neg hlt']
        have ih := rnumber_l0 s hs base most hb hb2 hm hm2 l (i + 1) (by omega) (by omega) h4
        simpa [dgOk, hv, hlt] using ih
      · have hlt' : (hexV (b.toNat : Int)).1 ≥ base := by have h5 := hlt; unfold dgV at h5; omega
        simp only [if_pos hlt']
        simpa [dgOk, hv, hlt] using Ev.now ((0 : Int), (3 : Int))
    · simp only [if_neg hv]
      simpa [dgOk, hv] using Ev.now ((0 : Int), (3 : Int))
theorem rnumber_ev (s : ByteArray) (hs : s.size ≤ 9223372036854775807) (base most : Int) (hb : 2 ≤ base) (hb2 : base ≤ 16) (hm2 : most ≤ 9223372036854775807) :
    Ev (fun k => turnstileref01_number.f k s base most) (numS base most s.data.toList) := by
  unfold turnstileref01_number.f numS
  by_cases hm : most < 0
  · simp only [if_pos hm]
    exact Ev.now _
  · simp only [if_neg hm]
    have := rnumber_l0 s hs base most hb hb2 (by omega) hm2 _ 0 (by omega) (by omega) rfl
    refine Ev.congr (fun _ => rfl) ?_
    have e : (if s.data.toList = [] then ((0 : Int), (3 : Int)) else if s.data.toList.all (dgOk base) = true then if valsB base 0 s.data.toList > most then (0, 4) else (valsB base 0 s.data.toList, 0) else (0, 3)) = (if (s.data.toList.drop (0 : Int).toNat).all (dgOk base) = true then (if s.data.toList = [] then (0, 3) else numQ base most 0 s.data.toList) else (0, 3)) := by
      by_cases hne : s.data.toList = []
      · simp [hne]
      · simp [hne, numQ]
    rw [e]
    exact this
theorem rdecimal_ev (s : ByteArray) (hs : s.size ≤ 9223372036854775807) (most : Int) (hm2 : most ≤ 9223372036854775807) : Ev (fun k => turnstileref01_Decimal.f k s most) (numS 10 most s.data.toList) := by
  unfold turnstileref01_Decimal.f
  exact Ev.bind (rnumber_ev s hs 10 most (by omega) (by omega) hm2) (Ev.now _)

end Go.Proofs.YtmmlacbcolfngaaDoor.Q
