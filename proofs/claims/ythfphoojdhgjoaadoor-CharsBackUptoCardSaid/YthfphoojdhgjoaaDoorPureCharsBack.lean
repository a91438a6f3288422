/- The law CharsBack in plain terms: what its printed function comes to is true; for all arguments that its lemma names. -/
import Derived.Test.YthfphoojdhgjoaaDoorQ0
import Derived.Test.YthfphoojdhgjoaaDoorQOpen
import Derived.Test.YthfphoojdhgjoaaDoorLLists
import Derived.Test.YthfphoojdhgjoaaDoorLTexts
import Derived.Test.YthfphoojdhgjoaaDoorQLawcharsback
namespace Go.Proofs.YthfphoojdhgjoaaDoor.Q
open Go.RowKit Go.Proofs.YthfphoojdhgjoaaDoorW.PrintWords Go.Proofs.YthfphoojdhgjoaaDoorW.PrintLast Go.Proofs.YthfphoojdhgjoaaDoorW.PrintMore
set_option linter.unusedVariables false
set_option linter.unusedSimpArgs false
theorem dch_of (b : Nat) (hb : 10 ≤ b) (hb2 : b ≤ 16) (m : Nat) (h : m < b) : dgV (dch m) = (m : Int) ∧ dgOk (b : Int) (dch m) = true := by
  have h1 : ∀ q : Fin 16, dgV (dch q.val) = (q.val : Int) ∧ (hexV ((dch q.val).toNat : Int)).2 = true := by decide +kernel
  have := h1 ⟨m, by omega⟩
  refine ⟨this.1, ?_⟩
  unfold dgOk
  rw [this.2, this.1]
  simp
  omega
theorem valsB_app (base : Int) : ∀ (p q : List UInt8) (n : Int), valsB base n (p ++ q) = valsB base (valsB base n p) q
  | [], q, n => rfl
  | b :: p, q, n => valsB_app base p q (n * base + dgV b)
theorem dgs_back (b : Nat) (hb : 10 ≤ b) (hb2 : b ≤ 16) : ∀ (f n : Nat) (acc : List UInt8), n < b ^ (f + 1) → ∃ p, dgs b (f + 1) n acc = p ++ acc ∧ p ≠ [] ∧ p.all (dgOk (b : Int)) = true ∧ valsB (b : Int) 0 p = (n : Int) := by
  intro f
  induction f with
  | zero =>
    intro n acc hn
    have hnb : n < b := by simpa using hn
    have hd := dch_of b hb hb2 n hnb
    refine ⟨[dch n], ?_, by simp, by simp [hd.2], by simp [valsB, hd.1]⟩
    simp only [dgs, Nat.div_eq_of_lt hnb, Nat.mod_eq_of_lt hnb, if_true]
    rfl
  | succ f ih =>
    intro n acc hn
    have hmb := Nat.mod_lt n (show 0 < b by omega)
    have hd := dch_of b hb hb2 (n % b) hmb
    rw [dgs]
    by_cases hq : n / b = 0
    · have hnb : n < b := by
        rcases Nat.lt_or_ge n b with h | h
        · exact h
        · have := Nat.div_pos h (by omega); omega
      rw [Nat.mod_eq_of_lt hnb] at hd
      refine ⟨[dch n], ?_, by simp, by simp [hd.2], by simp [valsB, hd.1]⟩
      rw [if_pos hq, Nat.mod_eq_of_lt hnb]
      rfl
    · obtain ⟨p, h1, h2, h3, h4⟩ := ih (n / b) (dch (n % b) :: acc) (dig_lt n b (f + 1) hb hn)
      refine ⟨p ++ [dch (n % b)], by rw [if_neg hq, h1]; simp, by simp, by simp [h3, hd.2], ?_⟩
      rw [valsB_app, h4]
      simp only [valsB, hd.1]
      have := Nat.div_add_mod n b
      have e : ((n / b : Nat) : Int) * (b : Int) = ((b * (n / b) : Nat) : Int) := by rw [Int.natCast_mul, Int.mul_comm]
      rw [e]
      omega
theorem digL_back (b n : Nat) (hb : 10 ≤ b) (hb2 : b ≤ 16) (hn : n < 18446744073709551616) : digL b n ≠ [] ∧ (digL b n).all (dgOk (b : Int)) = true ∧ valsB (b : Int) 0 (digL b n) = (n : Int) := by
  obtain ⟨p, h1, h2, h3, h4⟩ := dgs_back b hb hb2 19 n [] (dig_top n b hb hn)
  have e : digL b n = p := by unfold digL; rw [h1, List.append_nil]
  rw [e]
  exact ⟨h2, h3, h4⟩
theorem back_l0 (s : ByteArray) (hs : s.size ≤ 1048576) (ps : List (List UInt8)) (hps : ps.length ≤ 4294967296) (hm : ∀ x ∈ ps, x ≠ [] ∧ trm x = x ∧ 44 ∉ x ∧ x.length ≤ 1048576) :
    ∀ (l : List (List UInt8)) (i : Int), 0 ≤ i → ps.drop i.toNat = l → i ≤ ps.length → Ev (fun k => turnstilelaw01_CharsBack.l0 k s (baL ps) i) true
  | [], i, h0, h, hi => by
    have e : ps.length ≤ i.toNat := by simpa using h
    have hbl : (baL ps).length = ps.length := by simp [baL]
    refine Ev.step (fun k => by rw [turnstilelaw01_CharsBack.l0]) ?_
    simp only [hbl, if_neg (show ¬ i < (ps.length : Int) by omega)]
    have h1 : (⟨(lowL s.data.toList).toArray⟩ : ByteArray).size ≤ 140737488355328 := by rw [mk_size, lowL_len, ba_len]; omega
    have h2 : (⟨(trm s.data.toList).toArray⟩ : ByteArray).size ≤ 9223372036854775807 := by rw [mk_size]; have := trm_len s.data.toList; rw [ba_len] at this; omega
    simp only [lower_f s (by omega), Option.bind_some, lower_f _ h1, lowL_idem, if_true, trim_f s (by omega), trim_f _ h2, trm_idem, same_f s _ (show s.size ≤ 140737488355328 by omega) h1, decide_true]
    exact Ev.bind sure_ev (Ev.now true)
  | x :: l, i, h0, h, hi => by
    have hl : i.toNat < ps.length := by
      rcases Nat.lt_or_ge i.toNat ps.length with h' | h'
      · exact h'
      · rw [List.drop_of_length_le h'] at h; cases h
    have hd := List.drop_eq_getElem_cons hl
    rw [hd] at h
    obtain ⟨hx1, hx2⟩ := List.cons.inj h
    have hd' : ps.drop (i + 1).toNat = l := by rw [show (i + 1).toNat = i.toNat + 1 by omega]; exact hx2
    have hbl : (baL ps).length = ps.length := by simp [baL]
    have hx : rdOf ByteArray.empty (baL ps) i = ⟨x.toArray⟩ := by
      unfold rdOf baL
      rw [List.getD_eq_getElem?_getD, List.getElem?_map, List.getElem?_eq_getElem hl, hx1]
      rfl
    obtain ⟨m1, m2, m3, m4⟩ := hm x (by rw [← hx1]; exact List.getElem_mem hl)
    have hsz : (⟨x.toArray⟩ : ByteArray).size ≤ 1048576 := by rw [mk_size]; exact m4
    refine Ev.step (fun k => by rw [turnstilelaw01_CharsBack.l0]) ?_
    simp only [hbl, if_pos (show i < (ps.length : Int) by omega), if_pos h0, hx, ba_toList, if_neg m1, trim_f _ (show (⟨x.toArray⟩ : ByteArray).size ≤ 9223372036854775807 by omega), Option.bind_some, m2, if_true]
    refine Ev.bind (list_ev _ (by omega)) ?_
    rw [elemsL_one x m1 m2 m3, wrap_in (n := i + 1) (by omega)]
    simp only [baL, List.map_cons, List.map_nil, List.length_cons, List.length_nil]
    simp only [show ((0 + 1 : Nat) : Int) = 1 from rfl, if_true]
    exact back_l0 s hs ps hps hm l (i + 1) (by omega) hd' (by omega)
theorem back_j0 (s : ByteArray) (hs : s.size ≤ 1048576) : Ev (fun k => turnstilelaw01_CharsBack.j0 k s) true := by
  refine Ev.step (fun k => by rw [turnstilelaw01_CharsBack.j0]) ?_
  refine Ev.bind (list_ev s (by omega)) ?_
  have hl := elemsL_len s.data.toList
  rw [ba_len] at hl
  exact back_l0 s hs _ (by omega) (fun x hx => by have := elemsL_mem _ _ hx; rw [ba_len] at this; exact ⟨this.1, this.2.1, this.2.2.1, by omega⟩) _ 0 (by omega) rfl (by omega)
theorem CharsBack_pure (n : Nat) (hn : n ≤ 1048576) (a0 : Int) (a1 : ByteArray) (h0 : (Lit.int .i64 a0).wf = true) (h1 : a1.size + 1 ≤ n ∧ a1.size ≤ 9223372036854775807) : ∃ k, turnstilelaw01_CharsBack.f k a0 a1 = some true := by
  have w0 := wf_i64 h0
  refine Ev.rounds ?_
  unfold turnstilelaw01_CharsBack.f
  by_cases hp : a0 ≥ 0
  · have hj := back_j0 a1 (by omega)
    have hneg : ¬ a0 < 0 := by omega
    have hlen10 : (digL 10 a0.natAbs).length ≤ 20 := by have := dgs_len 10 20 a0.natAbs []; simpa [digL] using this
    have hlen16 : (digL 16 a0.natAbs).length ≤ 20 := by have := dgs_len 16 20 a0.natAbs []; simpa [digL] using this
    obtain ⟨d1, d2, d3⟩ := digL_back 10 a0.natAbs (by omega) (by omega) (by omega)
    obtain ⟨e1, e2, e3⟩ := digL_back 16 a0.natAbs (by omega) (by omega) (by omega)
    have habs : (a0.natAbs : Int) = a0 := by omega
    rw [habs] at d3 e3
    have hT : textL a0 = digL 10 a0.natAbs := by unfold textL; rw [if_neg hneg]
    have hd : numS 10 a0 ((⟨#[48, 48]⟩ : ByteArray) ++ ⟨(textL a0).toArray⟩ : ByteArray).data.toList = (a0, 0) := by
      have e : ((⟨#[48, 48]⟩ : ByteArray) ++ ⟨(textL a0).toArray⟩ : ByteArray).data.toList = 48 :: 48 :: digL 10 a0.natAbs := by rw [hT]; simp
      have hz : dgV 48 = 0 ∧ dgOk 10 48 = true := by decide +kernel
      have hv : valsB 10 0 (48 :: 48 :: digL 10 a0.natAbs) = a0 := by
        show valsB 10 ((0 * 10 + dgV 48) * 10 + dgV 48) (digL 10 a0.natAbs) = a0
        rw [hz.1]
        exact d3
      have d2' : (digL 10 a0.natAbs).all (dgOk 10) = true := d2
      rw [e, numS, if_neg hneg, if_neg (by simp), hv]
      rw [if_pos (show (48 :: 48 :: digL 10 a0.natAbs).all (dgOk 10) = true by rw [List.all_cons, List.all_cons, hz.2, d2']; rfl), if_neg (by omega)]
    have hh : numS 16 a0 (digL 16 a0.natAbs) = (a0, 0) := by
      have e3' : valsB 16 0 (digL 16 a0.natAbs) = a0 := e3
      have e2' : (digL 16 a0.natAbs).all (dgOk 16) = true := e2
      rw [numS, if_neg hneg, if_neg e1, if_pos e2', e3', if_neg (by omega)]
    have hs1 : ((⟨#[48, 48]⟩ : ByteArray) ++ ⟨(textL a0).toArray⟩ : ByteArray).size ≤ 9223372036854775807 := by rw [← ba_len]; simp [hT]; omega
    simp only [if_pos hp, text_f a0 w0.1 w0.2, Option.bind_some, mk_size, hT, if_pos (show 2 + (digL 10 a0.natAbs).length ≤ 9223372036854775807 by omega)]
    rw [hT] at hs1 hd
    refine Ev.bind (decimal_ev _ hs1 a0 w0.2) ?_
    rw [hd]
    simp only [hextext_f a0 w0.2, Option.bind_some, if_neg hneg]
    refine Ev.bind (hexnum_ev _ (by rw [mk_size]; omega) a0 w0.2) ?_
    simp only [hh, errOf, if_true, Option.isNone_none]
    exact hj
  · simp only [if_neg hp]
    exact back_j0 a1 (by omega)

end Go.Proofs.YthfphoojdhgjoaaDoor.Q
