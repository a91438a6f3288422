/- FrameSmuggled: the law's walk on the runner, and its plain part; for every input of bulk at most 1048576. -/
import Derived.Test.YtmmlacbcolfngaaDoorFsWalk
import Derived.Test.YtmmlacbcolfngaaDoorLFrames
namespace Go.Proofs.YtmmlacbcolfngaaDoor.Q
open Go.RowKit Go.Proofs.YtmmlacbcolfngaaDoorW.PrintWords Go.Proofs.YtmmlacbcolfngaaDoorW.PrintLast Go.Proofs.YtmmlacbcolfngaaDoorW.PrintMore
set_option linter.unusedVariables false
set_option linter.unusedSimpArgs false
theorem sm_lenIn_some : ∀ (l : List (List UInt8)) (v : Int), lenIn (some v) l = none ∨ lenIn (some v) l = some (some v)
  | [], v => .inr rfl
  | x :: l, v => by
    unfold lenIn
    split
    · rename_i h
      have : (numS 10 1099511627776 x).1 = v := by
        rcases h.2 with h | h
        · cases h
        · exact (Option.some.inj h).symm
      rw [this]
      exact sm_lenIn_some l v
    · exact .inl rfl
theorem sm_lenIn_ne (st : Option Int) (x : List UInt8) (l : List (List UInt8)) : lenIn st (x :: l) = none ∨ ∃ v, lenIn st (x :: l) = some (some v) := by
  unfold lenIn
  split
  · rcases sm_lenIn_some l (numS 10 1099511627776 x).1 with h | h
    · exact .inl h
    · exact .inr ⟨_, h⟩
  · exact .inl rfl
theorem sm_lenOut_some : ∀ (L : List (List (List UInt8))) (v : Int), lenOut (some v) L = none ∨ lenOut (some v) L = some (some v)
  | [], v => .inr rfl
  | e :: L, v => by
    unfold lenOut
    split
    · exact .inl rfl
    · rcases sm_lenIn_some e v with h | h
      · rw [h]; exact .inl rfl
      · rw [h]; exact sm_lenOut_some L v
theorem sm_lenOut_ne (st : Option Int) (e : List (List UInt8)) (L : List (List (List UInt8))) : lenOut st (e :: L) = none ∨ ∃ v, lenOut st (e :: L) = some (some v) := by
  unfold lenOut
  split
  · exact .inl rfl
  · rename_i he
    cases e with
    | nil => exact absurd rfl he
    | cons x l =>
      rcases sm_lenIn_ne st x l with h | ⟨v, h⟩
      · rw [h]; exact .inl rfl
      · rw [h]
        rcases sm_lenOut_some L v with h | h
        · exact .inl h
        · exact .inr ⟨v, h⟩
theorem sm_lenOut_app : ∀ (st : Option Int) (A B : List (List (List UInt8))), lenOut st (A ++ B) = (lenOut st A).bind fun st' => lenOut st' B
  | st, [], B => rfl
  | st, e :: A, B => by
    have u : ∀ X, lenOut st (e :: X) = if e = [] then none else (lenIn st e).bind fun st' => lenOut st' X := fun X => rfl
    rw [List.cons_append, u, u]
    split
    · rfl
    · cases h : lenIn st e with
      | none => rfl
      | some st' => exact sm_lenOut_app st' A B
theorem dg_facts : ∀ n : Fin 1000, elemsL (dg n.val).data.toList = [(dg n.val).data.toList] ∧ numS 10 1099511627776 (dg n.val).data.toList = ((n.val : Int), 0) ∧ (dg n.val).size ≤ 10 := by decide +kernel
theorem dg_at {n : Int} (h0 : 0 ≤ n) (h1 : n < 1000) : elemsB (dg n) = [(dg n).data.toList] ∧ numS 10 1099511627776 (dg n).data.toList = (n, 0) ∧ (dg n).size ≤ 10 := by
  obtain ⟨k, rfl⟩ := Int.eq_ofNat_of_zero_le h0
  exact dg_facts ⟨k, by omega⟩
theorem sm_fok {l : List S67} (h : FOk 1048576 l) (j : Nat) (p q : S67) (hp : p.f0.size ≤ 1048576 ∧ p.f1.size ≤ 1048576) (hq : q.f0.size ≤ 1048576 ∧ q.f1.size ≤ 1048576) : FOk 1048576 (l.take j ++ [p, q] ++ l.drop j) := by
  intro f hf
  simp only [List.mem_append, List.mem_cons, List.not_mem_nil, or_false] at hf
  rcases hf with (hf | rfl | rfl) | hf
  · exact h f (List.mem_of_mem_take hf)
  · exact hp
  · exact hq
  · exact h f (List.mem_of_mem_drop hf)
theorem sm_A (l : List S67) (hl : l.length ≤ 1048576) (h : FOk 1048576 l) (j : Nat) (n : Int) (h0 : 0 ≤ n) (h1 : n < 1000) : ∃ k0, ∀ k, k0 ≤ k → frame_Request.f k ⟨#[]⟩ ⟨#[]⟩ 1 (listA l j n) = some (0, 0, some 30) := by
  obtain ⟨d1, d2, d3⟩ := dg_at h0 h1
  have hlen : (listA l j n).length ≤ 4194304 := by simp only [listA, List.length_append, List.length_take, List.length_drop, List.length_cons, List.length_nil]; omega
  have hfok : FOk 1048576 (listA l j n) := sm_fok h j _ _ ⟨(show clL.size ≤ 1048576 by decide), (show (dg n).size ≤ 1048576 by omega)⟩ ⟨(show teL.size ≤ 1048576 by decide), (show chL.size ≤ 1048576 by decide)⟩
  have hv : valsOf clName (listA l j n) = valsOf clName (l.take j) ++ [dg n] ++ valsOf clName (l.drop j) := by
    unfold listA
    rw [valsOf_app, valsOf_app]
    rfl
  have hc : valsOf teName (listA l j n) = valsOf teName (l.take j) ++ [chL] ++ valsOf teName (l.drop j) := by
    unfold listA
    rw [valsOf_app, valsOf_app]
    rfl
  have e : commonS (listA l j n) 1 0 = (0, 0, 30) := by
    unfold commonS
    refine if_pos ?_
    have hL : (lengthS (valsOf clName (listA l j n))).2.2 ≠ 0 ∨ (lengthS (valsOf clName (listA l j n))).2.1 = true := by
      rw [hv]
      unfold lengthS
      obtain ⟨e, L, hE⟩ : ∃ e L, (valsOf clName (l.take j) ++ [dg n] ++ valsOf clName (l.drop j)).map elemsB = e :: L := by
        cases hh : valsOf clName (l.take j) with
        | nil => exact ⟨_, _, rfl⟩
        | cons x xs => exact ⟨_, _, rfl⟩
      rw [hE]
      rcases sm_lenOut_ne none e L with q | ⟨v, q⟩
      · rw [q]; exact .inl (by decide)
      · rw [q]; exact .inr rfl
    have hC : (chunkedS (valsOf teName (listA l j n))).2 ≠ 0 ∨ (chunkedS (valsOf teName (listA l j n))).1 = true := by
      rw [hc]
      unfold chunkedS
      rw [if_neg (by simp)]
      split
      · split
        · exact .inr rfl
        · exact .inl (by decide)
      · exact .inl (by decide)
    rcases hL with hL | hL
    · exact .inl hL
    · rcases hC with hC | hC
      · exact .inr (.inl hC)
      · exact .inr (.inr (.inl ⟨hL, hC⟩))
  have := freq_ev ⟨#[]⟩ ⟨#[]⟩ 1 (listA l j n) hlen hfok
  rw [e] at this
  exact this
theorem sm_B (l : List S67) (hl : l.length ≤ 1048576) (h : FOk 1048576 l) (j : Nat) (n m : Int) (h0 : 0 ≤ n) (h1 : n < 1000) (h2 : 0 ≤ m) (h3 : m < 1000) :
    ∃ k0 r, (n = m ∨ r = (0, 0, some 30)) ∧ ∀ k, k0 ≤ k → frame_Request.f k ⟨#[]⟩ ⟨#[]⟩ 1 (listB l j n m) = some r := by
  obtain ⟨d1, d2, d3⟩ := dg_at h0 h1
  obtain ⟨g1, g2, g3⟩ := dg_at h2 h3
  have hlen : (listB l j n m).length ≤ 4194304 := by simp only [listB, List.length_append, List.length_take, List.length_drop, List.length_cons, List.length_nil]; omega
  have hfok : FOk 1048576 (listB l j n m) := sm_fok h j _ _ ⟨(show clM.size ≤ 1048576 by decide), (show (dg n).size ≤ 1048576 by omega)⟩ ⟨(show clU.size ≤ 1048576 by decide), (show (dg m).size ≤ 1048576 by omega)⟩
  have hv : valsOf clName (listB l j n m) = valsOf clName (l.take j) ++ [dg n, dg m] ++ valsOf clName (l.drop j) := by
    unfold listB
    rw [valsOf_app, valsOf_app]
    rfl
  obtain ⟨k0, hk⟩ := freq_ev ⟨#[]⟩ ⟨#[]⟩ 1 (listB l j n m) hlen hfok
  refine ⟨k0, _, ?_, hk⟩
  by_cases hnm : n = m
  · exact .inl hnm
  · right
    have e : commonS (listB l j n m) 1 0 = (0, 0, 30) := by
      unfold commonS
      refine if_pos (.inl ?_)
      rw [hv]
      unfold lengthS
      have : lenOut none ((valsOf clName (l.take j) ++ [dg n, dg m] ++ valsOf clName (l.drop j)).map elemsB) = none := by
        rw [List.map_append, List.map_append, List.append_assoc, sm_lenOut_app]
        cases lenOut none ((valsOf clName (l.take j)).map elemsB) with
        | none => rfl
        | some st =>
          show lenOut st (elemsB (dg n) :: elemsB (dg m) :: (valsOf clName (l.drop j)).map elemsB) = none
          rw [d1, g1, lenOut, if_neg (by simp), lenIn]
          split
          · rw [d2]
            show lenOut (some n) ([(dg m).data.toList] :: _) = none
            rw [lenOut, if_neg (by simp), lenIn, if_neg]
            · rfl
            · rintro ⟨_, h | h⟩
              · cases h
              · rw [g2] at h; exact hnm (Option.some.inj h)
          · rfl
      rw [this]
      decide
    rw [e]
    rfl
end Go.Proofs.YtmmlacbcolfngaaDoor.Q
