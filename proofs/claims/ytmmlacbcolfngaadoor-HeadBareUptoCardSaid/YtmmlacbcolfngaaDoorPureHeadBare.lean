/- The law HeadBare in plain terms: what its printed function comes to is true; for all arguments that its lemma names. -/
import Derived.Test.YtmmlacbcolfngaaDoorQ0
import Derived.Test.YtmmlacbcolfngaaDoorQOpen
import Derived.Test.YtmmlacbcolfngaaDoorLWrB
import Derived.Test.YtmmlacbcolfngaaDoorQLawheadbare
namespace Go.Proofs.YtmmlacbcolfngaaDoor.Q
open Go.RowKit Go.Proofs.YtmmlacbcolfngaaDoorW.PrintWords Go.Proofs.YtmmlacbcolfngaaDoorW.PrintLast Go.Proofs.YtmmlacbcolfngaaDoorW.PrintMore
set_option linter.unusedVariables false
set_option linter.unusedSimpArgs false
theorem wr_whole {qm qt : ByteArray} {m : Int} {l : List S67} (h : WrFact qm qt m l) (most : Int) (hl : ((headL (reqL qm qt m) l ++ [10]).length : Int) ≤ most) : ∃ t, Eats (RdSt.new most true 0) (headL (reqL qm qt m) l ++ [10]) t ∧ t.err = none := by
  have hl' : ((headL (reqL qm qt m) l).length : Int) + 1 ≤ most := by
    rw [List.length_append] at hl
    simpa using hl
  obtain ⟨t, e, L, q1, q2, q3, q4, q5, q6⟩ := wr_eats h most (by omega)
  have L' : Live t 10 true := ⟨L.err, L.at_, L.asks, by rw [q6]; exact h.n⟩
  exact ⟨_, e.app (Eats.one L' (by decide) (end_head L' (by rw [q1, q2]; exact hl'))), L.err⟩
theorem near_at (b : List Int) (lo hi j : Nat) (h : nearB b lo hi = false) (h1 : lo ≤ j) (h2 : j < hi) (h3 : j < b.length) : b[j] ≠ 13 ∧ b[j] ≠ 10 := by
  unfold nearB at h
  have hm : b[j] ∈ (b.take hi).drop lo := by
    rw [List.mem_iff_getElem]
    refine ⟨j - lo, by simp; omega, ?_⟩
    simp [show lo + (j - lo) = j by omega]
  have := List.any_eq_false.1 h _ hm
  simpa using this
theorem bareX_len (b : List Int) (i : Nat) (f : Bool) : (bareX b i f).length ≤ b.length + 1 + b.length := by
  unfold bareX
  simp only [List.length_append, List.length_take, List.length_drop, List.length_singleton]
  omega
theorem bare_pure (b : List Int) (hr : Rng b) (t : RdSt) (e : Eats (RdSt.new 65536 true 0) b t) (ht : t.err = none) (h1 : 1 ≤ b.length) (h2 : b.length ≤ 32768) (a1 : Int) (a2 : Bool) (hn : nearB b (bareAt b a1 - 2) (min (bareAt b a1 + 2) b.length) = false) :
    bareE (head_ParseRequest.f (bareX b (bareAt b a1) a2) 65536) = true := by
  have hi : bareAt b a1 < b.length := by
    have q1 := Int.emod_nonneg (IntKind.u64.wrap a1) (show (b.length : Int) ≠ 0 by omega)
    have q2 := Int.emod_lt_of_pos (IntKind.u64.wrap a1) (show (0 : Int) < b.length by omega)
    unfold bareAt
    omega
  generalize bareAt b a1 = i at hn hi ⊢
  have hd : b.drop i = b[i] :: b.drop (i + 1) := List.drop_eq_getElem_cons hi
  have hb : b = b.take i ++ b[i] :: b.drop (i + 1) := by rw [← hd, List.take_append_drop]
  have hy := near_at b _ _ i hn (by omega) (by omega) hi
  have hc : bareC a2 = 13 ∨ bareC a2 = 10 := by unfold bareC; split <;> simp
  have hx : (b.take i).getLastD 0 ≠ 13 ∧ (b.take i).getLastD 0 ≠ 10 := by
    cases i with
    | zero => simp
    | succ j =>
      have hj : j < b.length := by omega
      have hl : (b.take (j + 1)).getLastD 0 = b[j] := by
        rw [← List.take_append_getElem hj, List.getLastD_concat]
      rw [hl]
      exact near_at b _ _ j hn (by omega) (by omega) hj
  rw [hb] at e
  obtain ⟨n, h3, h4⟩ := bare 65536 (b.take i) b[i] (b.drop (i + 1)) t (bareC a2) e ht hc hx hy (by rw [List.length_take]; omega)
  have hX : bareX b i a2 = b.take i ++ bareC a2 :: b[i] :: b.drop (i + 1) := by unfold bareX; rw [hd]; simp
  have hlen := bareX_len b i a2
  have hrx : Rng (bareX b i a2) := by
    unfold bareX
    refine rng_app (rng_app (fun x hx => hr x (List.mem_of_mem_take hx)) (rng_cons (by rcases hc with e | e <;> rw [e] <;> omega) rng_nil)) (fun x hx => hr x (List.mem_of_mem_drop hx))
  unfold head_ParseRequest.f
  rw [if_pos ⟨by omega, hrx⟩, if_neg (by omega)]
  unfold RdSt.res
  rw [hX, h3]
  rcases h4 with rfl | rfl <;> rfl
theorem bare_ev (qm qt : ByteArray) (m : Int) (l : List S67) (a1 : Int) (a2 : Bool) (hqm : qm.size ≤ 1048576) (hqt : qt.size ≤ 1048576) (hl : l.length ≤ 1048576) (hok : ∀ f ∈ l, f.f0.size ≤ 1048576 ∧ f.f1.size ≤ 1048576) : Ev (fun k => turnstilelaw09_HeadBare.f k qm qt m l a1 a2) true := by
  unfold turnstilelaw09_HeadBare.f lwBare
  refine Ev.bind (written_ev qm qt m l hqm hqt hl hok) ?_
  by_cases h : wrOk qm qt m l = true
  · simp only [if_pos h]
    have F := wrOk_fact h
    generalize hb : headL (reqL qm qt m) l ++ [10] = b
    split
    · rename_i hc
      obtain ⟨c1, c2, c3⟩ := hc
      refine Ev.congr (fun _ => ?_) (Ev.now true)
      congr 1
      by_cases hn : nearB b (bareAt b a1 - 2) (min (bareAt b a1 + 2) b.length) = true
      · simp only [hn, Bool.true_or]
      · obtain ⟨t, e, ht⟩ := wr_whole F 65536 (by rw [hb]; omega)
        rw [hb] at e
        have hr : Rng b := by rw [← hb]; exact rng_head (rng_req _ _ _ F.v) l
        rw [bare_pure b hr t e ht c2 c3 a1 a2 (by simpa using hn), Bool.or_true]
    · exact Ev.now true
  · simp only [if_neg h, Bool.false_eq_true, false_and, if_false]
    exact Ev.now true
theorem HeadBare_pure (n : Nat) (hn : n ≤ 1048576) (a0 : S24) (a1 : Int) (a2 : Bool) (h0 : BS24 n a0) (h1 : (Lit.int .i64 a1).wf = true) : ∃ k, turnstilelaw09_HeadBare.f k a0.f0 a0.f1 a0.f2 a0.f3 a1 a2 = some true := by
  unfold BS24 at h0
  obtain ⟨x1, x2, x3, x4, x5, x6⟩ := h0
  refine (bare_ev a0.f0 a0.f1 a0.f2 a0.f3 a1 a2 (by omega) (by omega) (by omega) (fun f hf => ?_)).rounds
  have := x6 f hf
  unfold BS67 at this
  omega

end Go.Proofs.YtmmlacbcolfngaaDoor.Q
