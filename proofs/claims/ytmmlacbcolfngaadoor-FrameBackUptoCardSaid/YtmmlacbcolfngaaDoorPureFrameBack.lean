/- The law FrameBack in plain terms: what its printed function comes to is true; for all arguments that its lemma names. -/
import Derived.Test.YtmmlacbcolfngaaDoorQ0
import Derived.Test.YtmmlacbcolfngaaDoorQOpen
import Derived.Test.YtmmlacbcolfngaaDoorLFrames
import Derived.Test.YtmmlacbcolfngaaDoorLFFields
import Derived.Test.YtmmlacbcolfngaaDoorQLawframeback
namespace Go.Proofs.YtmmlacbcolfngaaDoor.Q
open Go.RowKit Go.Proofs.YtmmlacbcolfngaaDoorW.PrintWords Go.Proofs.YtmmlacbcolfngaaDoorW.PrintLast Go.Proofs.YtmmlacbcolfngaaDoorW.PrintMore
set_option linter.unusedVariables false
set_option linter.unusedSimpArgs false
theorem sure_ev : Ev (fun k => turnstilelaw11_sure.f k) true := Ev.of (fun k => turnstilelaw11_sure.mono _) (k := 40) (by decide +kernel)
theorem fok_of {n : Nat} (hn : n ≤ 1048576) {l : List S67} (h : ∀ x ∈ l, BS67 n x) : FOk 1048576 l := fun f hf => by
  have := h f hf
  simp only [BS67] at this
  omega
theorem plain_vals (l : List S67) : valsOf clName (l.filter plainF) = [] ∧ valsOf teName (l.filter plainF) = [] := by
  constructor
  · unfold valsOf
    have : (l.filter plainF).filter (nameIs clName) = [] := by
      rw [List.filter_filter, List.filter_eq_nil_iff]
      intro f _
      have e : clName = clN := rfl
      simp [plainF, e]
      intro h; simp [h]
    rw [this]
    rfl
  · unfold valsOf
    have : (l.filter plainF).filter (nameIs teName) = [] := by
      rw [List.filter_filter, List.filter_eq_nil_iff]
      intro f _
      have e : teName = teN := rfl
      simp [plainF, e]
      intro h; simp [h]
    rw [this]
    rfl
theorem dch_of (m : Nat) (h : m < 10) : dgV (dch m) = (m : Int) ∧ dgOk 10 (dch m) = true := by
  have h1 : ∀ q : Fin 10, dgV (dch q.val) = (q.val : Int) ∧ dgOk 10 (dch q.val) = true := by decide +kernel
  exact h1 ⟨m, h⟩
theorem valsB_app (base : Int) : ∀ (p q : List UInt8) (n : Int), valsB base n (p ++ q) = valsB base (valsB base n p) q
  | [], q, n => rfl
  | b :: p, q, n => valsB_app base p q (n * base + dgV b)
theorem dgs_back : ∀ (f n : Nat) (acc : List UInt8), n < 10 ^ (f + 1) → ∃ p, dgs 10 (f + 1) n acc = p ++ acc ∧ p ≠ [] ∧ p.all (dgOk 10) = true ∧ valsB 10 0 p = (n : Int) := by
  intro f
  induction f with
  | zero =>
    intro n acc hn
    have hnb : n < 10 := by simpa using hn
    have hd := dch_of n hnb
    refine ⟨[dch n], ?_, by simp, by simp [hd.2], by simp [valsB, hd.1]⟩
    simp only [dgs, Nat.div_eq_of_lt hnb, Nat.mod_eq_of_lt hnb, if_true]
    rfl
  | succ f ih =>
    intro n acc hn
    have hmb := Nat.mod_lt n (show 0 < 10 by omega)
    have hd := dch_of (n % 10) hmb
    rw [dgs]
    by_cases hq : n / 10 = 0
    · have hnb : n < 10 := by omega
      rw [Nat.mod_eq_of_lt hnb] at hd
      refine ⟨[dch n], ?_, by simp, by simp [hd.2], by simp [valsB, hd.1]⟩
      rw [if_pos hq, Nat.mod_eq_of_lt hnb]
      rfl
    · obtain ⟨p, h1, h2, h3, h4⟩ := ih (n / 10) (dch (n % 10) :: acc) (dig_lt n 10 (f + 1) (by omega) hn)
      refine ⟨p ++ [dch (n % 10)], by rw [if_neg hq, h1]; simp, by simp, by simp [h3, hd.2], ?_⟩
      rw [valsB_app, h4]
      simp only [valsB, hd.1]
      omega
theorem digL_back (n : Nat) (hn : n < 18446744073709551616) : digL 10 n ≠ [] ∧ (digL 10 n).all (dgOk 10) = true ∧ valsB 10 0 (digL 10 n) = (n : Int) := by
  obtain ⟨p, h1, h2, h3, h4⟩ := dgs_back 19 n [] (dig_top n 10 (by omega) hn)
  have e : digL 10 n = p := by unfold digL; rw [h1, List.append_nil]
  rw [e]
  exact ⟨h2, h3, h4⟩
theorem dg_plain (b : UInt8) (h : dgOk 10 b = true) : b ≠ 44 ∧ blk b = false := by
  have h1 : ∀ n : Fin 256, dgOk 10 (UInt8.ofNat n.val) = true → UInt8.ofNat n.val ≠ 44 ∧ blk (UInt8.ofNat n.val) = false := by decide +kernel
  have := h1 ⟨b.toNat, b.toNat_lt⟩
  simp only [UInt8.ofNat_toNat] at this
  exact this h
theorem trm_free : ∀ l : List UInt8, (∀ b ∈ l, blk b = false) → trm l = l := by
  intro l h
  have h1 : ∀ m : List UInt8, (∀ b ∈ m, blk b = false) → m.dropWhile blk = m := fun m hm => by
    cases m with
    | nil => rfl
    | cons b m => simp [List.dropWhile, hm b (by simp)]
  unfold trm trL trR
  rw [h1 l.reverse (fun b hb => h b (by simpa using hb)), List.reverse_reverse, h1 l h]
theorem elems_digits (n : Nat) (hn : n < 18446744073709551616) : elemsL (digL 10 n) = [digL 10 n] := by
  obtain ⟨h1, h2, _⟩ := digL_back n hn
  have h3 : ∀ b ∈ digL 10 n, b ≠ 44 ∧ blk b = false := fun b hb => dg_plain b (List.all_eq_true.1 h2 b hb)
  exact elemsL_one _ h1 (trm_free _ fun b hb => (h3 b hb).2) (fun h => (h3 44 h).1 rfl)
theorem FrameBack_pure (n : Nat) (hn : n ≤ 1048576) (a0 : List S67) (a1 : S42) (h0 : a0.length + 1 ≤ n ∧ a0.length ≤ 9223372036854775807 ∧ ∀ x ∈ a0, BS67 n x) (h1 : BS42 n a1) : ∃ k, turnstilelaw11_FrameBack.f k a0 a1.f0 a1.f1 = some true := by
  simp only [BS42] at h1
  have hlen := wf_i64 h1.2
  have hk := fok_of hn h0.2.2
  generalize a1.f0 = kind at *
  generalize a1.f1 = len at *
  refine Ev.rounds ?_
  unfold turnstilelaw11_FrameBack.f
  simp only [List.nil_append, List.length_nil, Nat.zero_add, if_pos (show a0.length < 4398046511104 by omega)]
  refine Ev.bind (ffields_ev a0 _ _ hlen (by omega) hk) ?_
  unfold ffieldsS
  cases hv : validS kind len
  · simp only [Bool.false_eq_true, if_false, errOf, if_neg (show ¬ (1 : Int) = 0 by omega), Option.isNone_some, List.length_nil, if_pos (show ((0 : Nat) : Int) = 0 from rfl)]
    exact Ev.bind sure_ev (Ev.now true)
  · simp only [if_true, errOf, Option.isNone_none]
    have hfl := List.length_filter_le plainF a0
    have hel : (extraS kind len).length ≤ 1 := by unfold extraS; split <;> (try split) <;> simp
    have hok : FOk 1048576 (a0.filter plainF ++ extraS kind len) := by
      intro f hf
      rcases List.mem_append.1 hf with hf | hf
      · exact hk f (List.mem_filter.1 hf).1
      · unfold extraS at hf
        split at hf
        · simp only [List.mem_singleton] at hf
          subst hf
          have := dgs_len 10 20 len.natAbs []
          refine ⟨by rw [mk_size]; decide, ?_⟩
          show (⟨(textL len).toArray⟩ : ByteArray).size ≤ _
          rw [mk_size]
          unfold textL digL
          simp at this
          split
          · simp only [List.length_cons]; omega
          · omega
        · split at hf
          · simp only [List.mem_singleton] at hf
            subst hf
            exact ⟨by rw [mk_size]; decide, by decide⟩
          · simp at hf
    have hal : (a0.filter plainF ++ extraS kind len).length ≤ 4194304 := by rw [List.length_append]; omega
    obtain ⟨p1, p2⟩ := plain_vals a0
    have hcl : valsOf clName (a0.filter plainF ++ extraS kind len) = if kind = 1 then [⟨(textL len).toArray⟩] else [] := by
      rw [valsOf_app, p1, List.nil_append]
      unfold extraS
      split
      · rw [valsOf_cons]
        have : nameIs clName (⟨⟨clN.toArray⟩, ⟨(textL len).toArray⟩⟩ : S67) = true := by simp [nameIs, clName, clN]
        rw [if_pos this]
        rfl
      · split
        · rw [valsOf_cons]
          have : nameIs clName (⟨⟨teN.toArray⟩, ⟨#[99, 104, 117, 110, 107, 101, 100]⟩⟩ : S67) = false := by decide +kernel
          rw [this]
          rfl
        · rfl
    have hte : valsOf teName (a0.filter plainF ++ extraS kind len) = if kind = 2 then [⟨#[99, 104, 117, 110, 107, 101, 100]⟩] else [] := by
      rw [valsOf_app, p2, List.nil_append]
      unfold extraS
      by_cases k1 : kind = 1
      · rw [if_pos k1, if_neg (by omega), valsOf_cons]
        have : nameIs teName (⟨⟨clN.toArray⟩, ⟨(textL len).toArray⟩⟩ : S67) = false := by
          have h2 : decide (lowL clN = lowL teName) = false := by decide +kernel
          simpa [nameIs] using h2
        rw [this]
        rfl
      · rw [if_neg k1]
        by_cases k2 : kind = 2
        · rw [if_pos k2, if_pos k2, valsOf_cons]
          have : nameIs teName (⟨⟨teN.toArray⟩, ⟨#[99, 104, 117, 110, 107, 101, 100]⟩⟩ : S67) = true := by decide +kernel
          rw [this]
          rfl
        · rw [if_neg k2, if_neg k2]
          rfl
    have hcom : ∀ rest : Int, (kind = rest ∨ kind = 1 ∨ kind = 2) → commonS (a0.filter plainF ++ extraS kind len) 1 rest = (kind, len, 0) := by
      intro rest hr
      unfold commonS
      rw [hcl, hte]
      by_cases k1 : kind = 1
      · subst k1
        rw [show (if (1 : Int) = 1 then [(⟨(textL len).toArray⟩ : ByteArray)] else []) = [⟨(textL len).toArray⟩] from rfl, show (if (1 : Int) = 2 then [(⟨#[99, 104, 117, 110, 107, 101, 100]⟩ : ByteArray)] else []) = [] from rfl]
        simp only [validS, if_true, Bool.and_eq_true, decide_eq_true_eq] at hv
        have hT : textL len = digL 10 len.natAbs := by unfold textL; rw [if_neg (by omega)]
        have hnat : len.natAbs < 18446744073709551616 := by omega
        have hL : lengthS [⟨(textL len).toArray⟩] = (len, true, 0) := by
          obtain ⟨d1, d2, d3⟩ := digL_back len.natAbs hnat
          have habs : (len.natAbs : Int) = len := by omega
          rw [habs] at d3
          have e1 : elemsB ⟨(textL len).toArray⟩ = [digL 10 len.natAbs] := by unfold elemsB; rw [hT]; exact elems_digits len.natAbs hnat
          have e2 : numS 10 1099511627776 (digL 10 len.natAbs) = (len, 0) := by
            rw [numS, if_neg (by omega), if_neg d1, if_pos d2, d3, if_neg (by omega)]
          unfold lengthS
          simp only [List.map_cons, List.map_nil, e1, lenOut, lenIn, e2]
          simp [lenRes]
        have hC : chunkedS [] = (false, 0) := rfl
        rw [hL, hC]
        simp
      · rw [if_neg k1]
        have hz : len = 0 := by
          simp only [validS, if_neg k1, Bool.and_eq_true, beq_iff_eq] at hv
          exact hv.2
        subst hz
        have hL : lengthS [] = (0, false, 0) := rfl
        by_cases k2 : kind = 2
        · subst k2
          rw [if_pos rfl, hL]
          have hC : chunkedS [⟨#[99, 104, 117, 110, 107, 101, 100]⟩] = (true, 0) := by decide +kernel
          rw [hC]
          simp
        · rw [if_neg k2, hL]
          have hC : chunkedS [] = (false, 0) := rfl
          rw [hC]
          have : rest = kind := by omega
          simp [this]
    by_cases k3 : kind = 3
    · simp only [if_pos k3]
      refine Ev.bind (fresp_ev _ _ _ _ _ hal hok) ?_
      have hr : respS (⟨#[71, 69, 84]⟩ : ByteArray).data.toList 200 1 (a0.filter plainF ++ extraS kind len) = (kind, len, 0) := by
        unfold respS
        rw [if_neg (by decide), hcom 3 (.inl k3)]
      rw [hr]
      simp only [errOf, if_true, Option.isNone_none, beq_self_eq_true, Bool.and_self]
      exact Ev.bind sure_ev (Ev.now true)
    · simp only [if_neg k3]
      refine Ev.bind (freq_ev _ _ _ _ hal hok) ?_
      have hkk : kind = 0 ∨ kind = 1 ∨ kind = 2 := by
        unfold validS at hv
        by_cases k1 : kind = 1
        · exact .inr (.inl k1)
        · rw [if_neg k1] at hv
          simp [k3] at hv
          omega
      rw [hcom 0 hkk]
      simp only [errOf, if_true, Option.isNone_none, beq_self_eq_true, Bool.and_self]
      exact Ev.bind sure_ev (Ev.now true)

end Go.Proofs.YtmmlacbcolfngaaDoor.Q
