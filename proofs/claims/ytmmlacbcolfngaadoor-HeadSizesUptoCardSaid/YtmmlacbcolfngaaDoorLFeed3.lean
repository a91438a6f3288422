/- Plain Lean on what the printed functions answer (Feed3); for all arguments that the lemmas name. -/
import Derived.Test.YtmmlacbcolfngaaDoorQ0
import Derived.Test.YtmmlacbcolfngaaDoorLFeed2
namespace Go.Proofs.YtmmlacbcolfngaaDoor.Q
open Go.RowKit Go.Proofs.YtmmlacbcolfngaaDoorW.PrintWords Go.Proofs.YtmmlacbcolfngaaDoorW.PrintLast Go.Proofs.YtmmlacbcolfngaaDoorW.PrintMore
set_option linter.unusedVariables false
set_option linter.unusedSimpArgs false
theorem judge_none {s : RdSt} {ok : Bool} {er : Int} (h : judge s ok er = none) : ok = true ∧ s.len ≤ s.most := by
  unfold judge at h
  split at h
  · cases h
  · split at h
    · exact ⟨by assumption, by omega⟩
    · cases h
theorem judge_no {s : RdSt} {er : Int} (h : s.len ≤ s.most) : judge s false er = some er := by
  unfold judge
  rw [if_neg (by omega), if_neg (by decide)]
theorem step_len (s : RdSt) (c : Int) : (s.step c).len = s.len + 1 ∧ (s.step c).most = s.most ∧ (s.step c).asks = s.asks := by
  have h1 : ∀ t : RdSt, (t.reqLine c).1.len = t.len ∧ (t.reqLine c).1.most = t.most ∧ (t.reqLine c).1.asks = t.asks := by
    intro t
    unfold RdSt.reqLine
    (repeat' split) <;> exact ⟨rfl, rfl, rfl⟩
  have h2 : ∀ t : RdSt, (t.statLine c).1.len = t.len ∧ (t.statLine c).1.most = t.most ∧ (t.statLine c).1.asks = t.asks := by
    intro t
    unfold RdSt.statLine
    (repeat' split) <;> exact ⟨rfl, rfl, rfl⟩
  have h3 : ∀ t : RdSt, (t.fldLine c).1.len = t.len ∧ (t.fldLine c).1.most = t.most ∧ (t.fldLine c).1.asks = t.asks := by
    intro t
    unfold RdSt.fldLine
    (repeat' split) <;> exact ⟨rfl, rfl, rfl⟩
  have h4 : ∀ t : RdSt, (t.byte c).1.len = t.len + 1 ∧ (t.byte c).1.most = t.most ∧ (t.byte c).1.asks = t.asks := by
    intro t
    unfold RdSt.byte
    split
    · exact ⟨rfl, rfl, rfl⟩
    · split
      · exact h3 _
      · split
        · exact h1 _
        · exact h2 _
  exact h4 s
theorem Eats.len {s t : RdSt} {l : List Int} (h : Eats s l t) : t.len = s.len + l.length ∧ t.most = s.most ∧ t.asks = s.asks := by
  induction h with
  | nil => simp
  | @cons s t c l h1 h2 h3 ih =>
    obtain ⟨a, b, d⟩ := step_len s c
    refine ⟨?_, ih.2.1.trans b, ih.2.2.trans d⟩
    rw [ih.1, a, List.length_cons]
    push_cast
    omega
/-- What is left of a whole request's head: behind a line's end stands its byte. -/
def Inv (s : RdSt) (d : Int) : Prop :=
  s.asks = true ∧ (s.at_ = 0 ∨ s.at_ = 1 ∨ s.at_ = 2 ∨ s.at_ = 8 ∨ s.at_ = 11 ∨ (s.at_ = 7 ∧ (s.word = [] → d = 10)) ∨ ((s.at_ = 6 ∨ s.at_ = 9 ∨ s.at_ = 10) ∧ d = 13))
theorem inv_step (s : RdSt) (c d : Int) (h : Inv s d) (h11 : s.at_ ≠ 11) (he : (s.step c).err = none) : Inv (s.step c) c := by
  obtain ⟨ha, h⟩ := h
  refine ⟨(step_len s c).2.2.trans ha, ?_⟩
  unfold RdSt.step RdSt.byte RdSt.fldLine RdSt.reqLine at he ⊢
  rcases h with h | h | h | h | h | ⟨h, hd⟩ | ⟨h | h | h, hd⟩
  · simp only [h, ha] at he ⊢
    simp only [Int.reduceEq, if_false, if_true, ge_iff_le, Int.reduceLE] at he ⊢
    by_cases hc : c = 32 ∧ 0 < s.word.length
    · simp [hc, RdSt.taken]
    · simp [hc, RdSt.push, h]
  · simp only [h, ha] at he ⊢
    simp only [Int.reduceEq, if_false, if_true, ge_iff_le, Int.reduceLE] at he ⊢
    by_cases hc : c = 32 ∧ 0 < s.word.length
    · simp [hc, RdSt.taken]
    · simp [hc, RdSt.push, h]
  · simp only [h, ha] at he ⊢
    simp only [Int.reduceEq, if_false, if_true, ge_iff_le, Int.reduceLE] at he ⊢
    by_cases hc : c = 13 ∧ s.word.length = 8
    · simp [hc, RdSt.taken]
    · simp [hc, RdSt.push, h]
  · simp only [h, ha] at he ⊢
    simp only [Int.reduceEq, if_false, if_true, ge_iff_le, Int.reduceLE] at he ⊢
    by_cases hc : c = 13
    · simp [hc]
    · simp [hc, RdSt.push, h]
  · exact absurd h h11
  · simp only [h, ha] at he ⊢
    simp only [Int.reduceEq, if_false, if_true, ge_iff_le, Int.reduceLE] at he ⊢
    by_cases hc : c = 13 ∧ s.word.length = 0
    · simp [hc]
    · by_cases hm : c = 58 ∧ 0 < s.word.length
      · rw [if_neg hc, if_pos hm]
        exact .inr (.inr (.inr (.inl rfl)))
      · rw [if_neg hc, if_neg hm]
        exact .inr (.inr (.inr (.inr (.inr (.inl ⟨rfl, fun q => by simp [RdSt.push] at q⟩)))))
  · simp only [h, ha] at he ⊢
    simp only [Int.reduceEq, if_false, if_true, ge_iff_le, Int.reduceLE] at he ⊢
    have := (judge_none he).1
    refine .inr (.inr (.inr (.inr (.inr (.inl ⟨by first | exact rfl | simp, fun _ => by simpa using this⟩)))))
  · simp only [h, ha] at he ⊢
    simp only [Int.reduceEq, if_false, if_true, ge_iff_le, Int.reduceLE] at he ⊢
    have := (judge_none he).1
    refine .inr (.inr (.inr (.inr (.inr (.inl ⟨by first | exact rfl | simp, fun _ => by simpa using this⟩)))))
  · simp only [h, ha] at he ⊢
    simp only [Int.reduceEq, if_false, if_true, ge_iff_le, Int.reduceLE] at he ⊢
    simp
theorem Eats.live {s t : RdSt} {c : Int} {l : List Int} (h : Eats s (c :: l) t) (ht : t.err = none) : (s.step c).err = none := by
  cases h with
  | cons h1 h2 h3 =>
    cases h3 with
    | nil => exact ht
    | cons a b d => exact a
theorem Eats.inv {s t : RdSt} {l : List Int} (h : Eats s l t) : ∀ d, Inv s d → t.err = none → Inv t (l.getLastD d) := by
  induction h with
  | nil => exact fun d h _ => h
  | @cons s t c l h1 h2 h3 ih =>
    intro d hd ht
    have h0 := (Eats.cons h1 h2 h3).live ht
    have := ih c (inv_step s c d hd h2 h0) ht
    rw [List.getLastD_cons]
    exact this
theorem ver_not : ∀ (w : List Int) (c : Int), (c = 13 ∨ c = 10) → isVersion w c = false := by
  intro w c hc
  unfold isVersion
  split
  · rename_i h
    have : ∀ n : Fin 7, ∀ c : Fin 20, (c.val = 13 ∨ c.val = 10) → (((c.val : Nat) : Int) == bt ⟨#[72, 84, 84, 80, 47, 49, 46]⟩ (n.val : Int)) = false := by decide
    have k := this ⟨w.length, by omega⟩
    rcases hc with rfl | rfl
    · exact k 13 (.inl rfl)
    · exact k 10 (.inr rfl)
  · split
    · rcases hc with rfl | rfl <;> rfl
    · rfl
theorem ver_eight (w : List Int) (c : Int) (h : w.length = 8) : isVersion w c = false := by
  unfold isVersion
  rw [if_neg (by omega), if_neg (by omega)]
/-- A bare byte of a line's end spoils a head. -/
theorem bare (most : Int) (x : List Int) (y0 : Int) (y : List Int) (t : RdSt) (c : Int) (e : Eats (RdSt.new most true 0) (x ++ y0 :: y) t) (ht : t.err = none) (hc : c = 13 ∨ c = 10) (hx : x.getLastD 0 ≠ 13 ∧ x.getLastD 0 ≠ 10) (hy : y0 ≠ 13 ∧ y0 ≠ 10) (hl : (x.length : Int) + 2 ≤ most) :
    ∃ n, ((RdSt.new most true 0).feed (x ++ c :: y0 :: y)).1.err = some n ∧ (n = 20 ∨ n = 21) := by
  obtain ⟨u, e1, e2, e3⟩ := e.cut
  obtain ⟨u1, u2⟩ := e3 (by simp)
  have I := e1.inv 0 ⟨rfl, .inl rfl⟩ u1
  have h0 := e2.live ht
  obtain ⟨l1, l2, l3⟩ := e1.len
  have l1' : u.len = x.length := by rw [l1]; simp [RdSt.new]
  have l2' : u.most = most := l2
  have stop1 : ∀ n, (u.step c).err = some n → ((RdSt.new most true 0).feed (x ++ c :: y0 :: y)).1.err = some n := by
    intro n hn
    have := (e1.app (.cons u1 u2 (.nil (u.step c)))).stop (.inl (by rw [hn]; simp)) (y0 :: y)
    rw [List.append_assoc, List.singleton_append] at this
    rw [this]
    exact hn
  obtain ⟨ha, h⟩ := I
  have hp : ∀ (a : RdSt) (er : Int), a.len = u.len + 1 → a.most = u.most → judge a false er = some er := fun a er h1 h2 => judge_no (by rw [h1, h2, l1', l2']; omega)
  rcases h with h | h | h | h | h | ⟨h, hd⟩ | ⟨_, hd⟩
  · refine ⟨20, stop1 20 ?_, .inl rfl⟩
    unfold RdSt.step RdSt.byte RdSt.reqLine
    have hn : ¬ (c = 32 ∧ 0 < u.word.length) := by omega
    have hk : isTok c = false := by rcases hc with rfl | rfl <;> decide
    simp only [h, ha, Int.reduceEq, if_false, if_true, ge_iff_le, Int.reduceLE, if_neg hn, hk]
    exact hp _ _ rfl rfl
  · refine ⟨20, stop1 20 ?_, .inl rfl⟩
    unfold RdSt.step RdSt.byte RdSt.reqLine
    have hn : ¬ (c = 32 ∧ 0 < u.word.length) := by omega
    have hk : isVis c = false := by rcases hc with rfl | rfl <;> decide
    simp only [h, ha, Int.reduceEq, if_false, if_true, ge_iff_le, Int.reduceLE, if_neg hn, hk]
    exact hp _ _ rfl rfl
  · have h8 : u.word.length ≠ 8 := by
      intro h8
      unfold RdSt.step RdSt.byte RdSt.reqLine at h0
      have hn : ¬ (y0 = 13 ∧ u.word.length = 8) := fun q => hy.1 q.1
      simp only [h, ha, Int.reduceEq, if_false, if_true, ge_iff_le, Int.reduceLE, if_neg hn, ver_eight _ y0 h8] at h0
      have := (judge_none h0).1
      cases this
    refine ⟨20, stop1 20 ?_, .inl rfl⟩
    unfold RdSt.step RdSt.byte RdSt.reqLine
    have hn : ¬ (c = 13 ∧ u.word.length = 8) := fun q => h8 q.2
    simp only [h, ha, Int.reduceEq, if_false, if_true, ge_iff_le, Int.reduceLE, if_neg hn, ver_not _ c hc]
    exact hp _ _ rfl rfl
  · by_cases hcc : c = 13
    · have s1 : u.step c = {u with at_ := 9, len := u.len + 1, err := (u.step c).err} := by
        unfold RdSt.step RdSt.byte RdSt.fldLine
        simp only [h, ha, Int.reduceEq, if_false, if_true, ge_iff_le, Int.reduceLE, hcc]
      cases he : (u.step c).err with
      | some n =>
        exfalso
        unfold RdSt.step RdSt.byte RdSt.fldLine judge at he
        simp only [h, ha, Int.reduceEq, if_false, if_true, ge_iff_le, Int.reduceLE, hcc] at he
        rw [if_neg (by rw [l1', l2']; omega)] at he
        split at he
        · rename_i h64
          -- the fields' number stays, and the byte behind was taken well
          unfold RdSt.step RdSt.byte RdSt.fldLine judge at h0
          simp only [h, ha, Int.reduceEq, if_false, if_true, ge_iff_le, Int.reduceLE, if_neg hy.1, RdSt.push, if_pos h64] at h0
          split at h0
          · cases h0
          · split at h0 <;> cases h0
        · cases he
      | none =>
        rw [he] at s1
        have a9 : (u.step c).at_ = 9 := by rw [s1]
        have E := (e1.app (.cons u1 u2 (.nil (u.step c)))).app (.cons he (by rw [a9]; decide) (.nil ((u.step c).step y0)))
        have hk : ((u.step c).step y0).err = some 21 := by
          rw [s1]
          unfold RdSt.step RdSt.byte RdSt.fldLine
          simp only [Int.reduceEq, if_false, if_true, ge_iff_le, Int.reduceLE]
          rw [show (y0 == 10) = false by simpa using hy.2]
          exact judge_no (by show u.len + 1 + 1 ≤ u.most; rw [l1', l2']; omega)
        have := E.stop (.inl (by rw [hk]; simp)) y
        rw [List.append_assoc, List.append_assoc, List.singleton_append, List.singleton_append] at this
        refine ⟨21, ?_, .inr rfl⟩
        rw [this]
        exact hk
    · have h10 : c = 10 := by omega
      refine ⟨21, stop1 21 ?_, .inr rfl⟩
      unfold RdSt.step RdSt.byte RdSt.fldLine
      subst h10
      simp only [h, ha, Int.reduceEq, if_false, if_true, ge_iff_le, Int.reduceLE, show isVal 10 = false by decide]
      exact hp _ _ rfl rfl
  · exact absurd h u2
  · have hw : u.word ≠ [] := fun q => hx.2 (hd q)
    have hw' := List.length_pos_iff.2 hw
    refine ⟨21, stop1 21 ?_, .inr rfl⟩
    unfold RdSt.step RdSt.byte RdSt.fldLine
    have hn : ¬ (c = 13 ∧ u.word.length = 0) := by omega
    have hn2 : ¬ (c = 58 ∧ 0 < u.word.length) := by omega
    have hk : isTok c = false := by rcases hc with rfl | rfl <;> decide
    simp only [h, ha, Int.reduceEq, if_false, if_true, ge_iff_le, Int.reduceLE, if_neg hn, if_neg hn2, hk]
    exact hp _ _ rfl rfl
  · exact absurd hd hx.1

end Go.Proofs.YtmmlacbcolfngaaDoor.Q
