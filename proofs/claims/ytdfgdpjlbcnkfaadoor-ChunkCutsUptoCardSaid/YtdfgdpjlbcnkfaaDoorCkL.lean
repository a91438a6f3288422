/- The chunk reader on the runner: its functions, the law that feeds it, the plain part; for the inputs that each theorem names. -/
import Derived.Test.YtdfgdpjlbcnkfaaDoorCkZ
import Derived.Test.YtdfgdpjlbcnkfaaDoorAbsB
-- UF: CkFacts
namespace Go.Proofs.YtdfgdpjlbcnkfaaDoor.Q
open Go Go.Proofs.YtdfgdpjlbcnkfaaDoorAbs Go.Proofs
set_option linter.unusedVariables false
set_option linter.unusedSimpArgs false
set_option maxRecDepth 100000
set_option maxHeartbeats 4000000
attribute [local irreducible] Go.Proofs.YtdfgdpjlbcnkfaaDoorAbs.O Go.Proofs.YtdfgdpjlbcnkfaaDoorAbs.W Go.Proofs.YtdfgdpjlbcnkfaaDoorAbs.C Go.Proofs.YtdfgdpjlbcnkfaaDoorAbs.OK Go.Proofs.YtdfgdpjlbcnkfaaDoorAbs.OKF Go.Proofs.YtdfgdpjlbcnkfaaDoorAbs.OKT Go.Proofs.YtdfgdpjlbcnkfaaDoorAbs.then_ Go.Proofs.YtdfgdpjlbcnkfaaDoorAbs.inBlock_ Go.Proofs.YtdfgdpjlbcnkfaaDoorAbs.bodyQ Go.Proofs.YtdfgdpjlbcnkfaaDoorAbs.Cont
structure HW (I : Prims) : Prop extends HI I where
  works : ∀ (S : St) (Q : Value → St → Prop), S.get 6 = some ⟨tab64, 0, false, 0⟩ → Q (.bool true) S → C Tryd.prog I 14 #[] S Q
/-- Numbers that can be read. -/
def SlN (S : St) (v : Value) (xs : List Int) : Prop :=
  ∃ a c, v = .slice a xs.length c ∧ (xs ≠ [] → ∃ b o L cs el m, a = some ⟨b, o, some L⟩ ∧ S.get b = some ⟨cs, el, false, m⟩ ∧ (∀ i x, xs[i]? = some x → cs[o + i]? = some (.int .i64 x)) ∧ b < S.next)
section
variable {I : Prims} {S : St} {Q : Value → St → Prop}
theorem fresh_inv {most : Int} (h0 : ¬ (most < 0 ∨ 1099511627776 < most)) : RInv (CR.fresh [] [] most) :=
  ⟨by simp only [CR.fresh]; omega, by simp only [CR.fresh]; omega, by simp [CR.fresh], by simp [CR.fresh], by simp [CR.fresh], by simp [CR.fresh], by simp [CR.fresh], by simp [CR.fresh], by simp [CR.fresh], by simp [CR.fresh], by simp [CR.fresh]⟩
theorem fresh_rd {S : St} {b : Nat} {most : Int} (hb : S.get b = some ⟨(CR.fresh (.slice none 0 0) (.slice none 0 0) most).cells, 62, true, 0⟩) (hn : b < S.next) : Rd S b (CR.fresh [] [] most) (.slice none 0 0) (.slice none 0 0) 0 :=
  ⟨hb, Nat.zero_le _, hn, Own.nil _ _ _, Own.nil _ _ _, by simp [blkOf], by simp [blkOf], .inl rfl⟩
theorem sl_own {S : St} {v : Value} {xs : List UInt8} (h : Own 5 1 S v xs.length (u8v xs)) : Sl S v xs := by
  have hl : (u8v xs).length = xs.length := by simp [u8v]
  rcases h.2.2 with ⟨rfl, h0⟩ | ⟨b, m, rfl, h1, h2, h3, h4⟩
  · exact ⟨none, 0, by rw [h0], fun _ => rfl, fun q => absurd (List.length_eq_zero_iff.1 h0) q⟩
  · rw [hl] at h2 ⊢
    exact ⟨_, _, rfl, fun q => (by cases q), fun _ => ⟨b, 0, xs.length, u8v xs, 5, true, m, rfl, rfl, h1, fun _ => ⟨h2, by omega⟩, by rw [List.drop_zero, ← hl, List.take_length], h3⟩⟩
theorem pr_bool (n : Nat) (t : TypeId) (a c : Bool) (h : Tryd.prog.underlying t = some .bool) : pureRun Tryd.prog (Op.equalIn (n + 1) t (.bool a) (.bool c)) = some (a == c) := by
  rw [Op.equalIn, pureRun_bind, pr_und h]
  rfl
theorem beql4 (x y : Operand) (a b : Bool) : binX Tryd.prog .eql 4 x y (.bool a) (.bool b) = some (.bool (a == b)) := by
  have e : pureRun Tryd.prog (Op.equalIn 10000 4 (.bool a) (.bool b)) = some (a == b) := pr_bool 9999 4 a b u4
  simp [binX, abinOp, anil, scalar, leaf, eqGuard, binOp, Op.equal, Op.maxDepth, pureRun_bind, pureRun_pure, pr_map, e]
theorem own_zero {el sz : Nat} {S : St} {v : Value} {xs : List Value} (h : Own el sz S v 0 xs) : v = .slice none 0 0 := by
  rcases h.2.2 with ⟨e, _⟩ | ⟨b, m, _, _, _, _, q⟩
  · exact e
  · omega
theorem sl_sub {S : St} {b o L c k j : Nat} {xs : List UInt8} (h : Sl S (.slice (some ⟨b, o, some L⟩) xs.length c) xs) (hk : k + j ≤ xs.length) : Sl S (.slice (some ⟨b, o + k, some L⟩) j c) ((xs.drop k).take j) := by
  have hl : ((xs.drop k).take j).length = j := by simp; omega
  obtain ⟨a, c', e, h0, h1⟩ := h
  cases e
  refine ⟨_, _, by rw [hl], fun q => (by cases q), fun hne => ?_⟩
  have hj : 0 < j := by
    rcases Nat.eq_zero_or_pos j with q | q
    · subst q; simp at hne
    · exact q
  obtain ⟨b', o', L', cs, el, own, m, e1, e2, e3, e4, e5, e6⟩ := h1 (fun q => by rw [q] at hk; simp at hk; omega)
  cases e1
  refine ⟨b, o + k, L, cs, el, own, m, rfl, e2, e3, fun q => ⟨(e4 q).1, by have := (e4 q).2; rw [hl]; omega⟩, ?_, e6⟩
  rw [hl, ← List.drop_drop]
  have : u8v ((xs.drop k).take j) = ((u8v xs).drop k).take j := by simp [u8v, List.map_drop, List.map_take]
  rw [this, ← e5, List.drop_take, List.take_take, Nat.min_eq_left (by omega)]
theorem feed_out : ∀ (xs : List UInt8) (r : PRd), (feedF r xs).2.1.length ≤ xs.length
  | [], r => Nat.le_refl _
  | c :: l, r => by
    unfold feedF
    split
    · simp
    · have := feed_out l (byteF r c)
      simp only [List.length_append, List.length_cons]
      have : (outF r c).length ≤ 1 := by unfold outF; split <;> simp
      omega
/-- A feed of nothing. -/
theorem FeedNil_C (h : HI I) {b m : Nat} {r : PRd} {tv lv : Value} (hR : Rd S b r tv lv m) (hi : RInv r)
    (hQ : ∀ S' tv' lv' m', Rd S' b r tv' lv' m' → Mv S S' b tv lv tv' lv' → Q (.tuple #[.int .i64 0, .slice none 0 0, .bool (decide (r.state = 8)), errW r.err]) S') :
    C Tryd.prog I 15 #[.pointer (some ⟨b, 0, some 11⟩), .slice none 0 0] S Q :=
  Feed_C h (xs := []) hR hi ⟨none, 0, rfl, fun _ => rfl, fun q => absurd rfl q⟩ (fun i hi => by simp [blkOf] at hi) (fun i hi => by simp [blkOf] at hi) (by simp) (fun S' tv' lv' m' ov h1 h2 h3 h4 h5 h6 => by
    have := own_zero h4
    subst this
    exact hQ S' tv' lv' m' h1 h3)
theorem law_walk (h : HW I) {v vc : Value} {xs : List UInt8} {cs : List Int} {most : Int} (hx : Sl S v xs) (hc : SlN S vc cs) (hcn : cs.length ≤ 1048576) (hxn : xs.length ≤ 1048576) (hvn : ∀ i, blkOf v = some i → i < S.next) (h6 : S.get 6 = some ⟨tab64, 0, false, 0⟩) (h6n : 6 < S.next)
    (hQ : ∀ S', Q (.bool true) S') : C Tryd.prog I 4 #[v, vc, .int .i64 most] S Q := by
  refine C_body (rs := [.tmp 6]) (h.no 4 (by decide)) Tryd.func4 rfl rfl ok4 ?_
  obtain ⟨u22, sz5, u5, u9, u3, u29, u34, u33, sz3, u4, u41, sz66, u46, sz28, u47, u52, sz22, sz62, sz24, sz59, u59, sz60, u60, sz41, sz58, u58, sz73, sz34, sz4, sz9, sz83, u88, sz86, u112, sz118, u118, u2, sz126, u126, u21, sz130, u130, u139, u140, sz141, u141, u145, u148, sz147, u154, u155⟩ := UF
  obtain ⟨va, vcap, rfl, hva, hvv⟩ := id hx
  by_cases hbad : most < 0 ∨ 1099511627776 < most
  · have hN : ∀ (S' : St) (Q' : Value → St → Prop), Q' (.tuple #[.pointer none, .iface 58 (.int .i64 1)]) S' → C Tryd.prog I 12 #[.int .i64 most] S' Q' := fun S' Q' hq => New_C h.toHI (fun hn => absurd hbad hn) (fun _ => hq)
    have hnum : ∀ (S' : St) (Q' : Value → St → Prop), Q' (.int .i64 1) S' → C Tryd.prog I 13 #[.iface 58 (.int .i64 1)] S' Q' := fun S' Q' hq => num_C h.toHI (e := some 1) hq
    have ki := ki24
    repeat' (first
    | (with_reducible refine W_pushC fun K hK => ?_)
    | (with_reducible refine W_blockI ?_)
    | (with_reducible refine W_scopeI ?_)
    | (with_reducible refine W_labelI ?_)
    | (with_reducible refine W_skipI ?_)
    | (with_reducible refine W_retI ?_)
    | (with_reducible refine W_exitI ?_)
    | (with_reducible refine then_normalI ?_)
    | (with_reducible refine then_retI ?_)
    | (with_reducible refine then_exitI ?_)
    | (with_reducible refine inBlock_normalI ?_)
    | (with_reducible refine inBlock_retI ?_)
    | (with_reducible refine inBlock_exitI ?_)
    | (with_reducible refine inBlock_exitN (by decide) ?_)
    | ((with_reducible refine bodyQ_normal0 ?_); (try simp only [EVB, Nat.reduceEqDiff, reduceIte]))
    | ((with_reducible refine bodyQ_normal1 ?_); (try simp only [EVB, Nat.reduceEqDiff, reduceIte]))
    | ((with_reducible refine bodyQ_normal2 ?_); (try simp only [EVB, Nat.reduceEqDiff, reduceIte]))
    | ((with_reducible refine bodyQ_normal3 ?_); (try simp only [EVB, Nat.reduceEqDiff, reduceIte]))
    | ((with_reducible refine bodyQ_normal4 ?_); (try simp only [EVB, Nat.reduceEqDiff, reduceIte]))
    | ((with_reducible refine bodyQ_ret0 ?_); (try simp only [EVB, Nat.reduceEqDiff, reduceIte]))
    | ((with_reducible refine bodyQ_ret1 ?_); (try simp only [EVB, Nat.reduceEqDiff, reduceIte]))
    | ((with_reducible refine bodyQ_ret2 ?_); (try simp only [EVB, Nat.reduceEqDiff, reduceIte]))
    | ((with_reducible refine bodyQ_ret3 ?_); (try simp only [EVB, Nat.reduceEqDiff, reduceIte]))
    | ((with_reducible refine bodyQ_ret4 ?_); (try simp only [EVB, Nat.reduceEqDiff, reduceIte]))
    | ((with_reducible show C _ _ _ _ _ _); first | (refine hN _ _ ?_) | (refine hnum _ _ ?_) | (refine h.works _ _ h6 ?_))
    | (with_reducible refine Cont.use (by assumption) ?_)
    | ((with_reducible show W _ _ (.cond _ _ _) _ _ _); refine W_condI (by simp (disch := first | ((with_reducible show isStop _ = false); rfl) | ((with_reducible show isP _ = true); rfl) | ((with_reducible show (isStop _ || isP _) = false); rfl) | assumption | (simp only [gt_some, gb_bool, gb_undef, EVB, Option.bind_some, Nat.reduceEqDiff, reduceIte, beq_self_eq_true, Bool.not_true, Bool.not_false, beq_true, beq_false]; done) | omega | (with_reducible decide) | (simp only [List.length_cons, List.length_nil, List.size_toArray, List.toList_toArray, List.all_cons, List.all_nil, Go.Proofs.YtdfgdpjlbcnkfaaDoorAbs.oneC, Bool.and_self, Go.Proofs.YtdfgdpjlbcnkfaaDoorAbs.St.next_push, Go.Proofs.YtdfgdpjlbcnkfaaDoorAbs.St.next_upd, Nat.zero_add, Nat.reduceAdd, Nat.reduceLeDiff, Nat.le_refl, Nat.zero_le] <;> omega)) only [↓DN, ↓reduceIte, UP, Int.reduceEq, Int.reduceLT, Int.reduceLE, Nat.reduceEqDiff, Nat.reduceAdd, Nat.reduceMul, Nat.reduceSub, Int.reduceToNat, Nat.reduceLeDiff, PF, isStop, isP, goInt, beq_self_eq_true, decide_true, decide_false, Int.toNat_natCast, Int.natCast_zero, nn_eq, nn_ne]; rfl) (fun ht => ?_) (fun ht => ?_) <;> (first | (simp only [Bool.true_eq_false, Bool.false_eq_true] at ht; done) | ((try simp only [Bool.not_eq_true', Bool.not_eq_false'] at ht); (try simp only [ht]); (try simp only [HTN] at ht); (try (exfalso; omega)))))
    | ((with_reducible refine W_regionI ?_); simp (disch := first | ((with_reducible show isStop _ = false); rfl) | ((with_reducible show isP _ = true); rfl) | ((with_reducible show (isStop _ || isP _) = false); rfl) | assumption | (simp only [gt_some, gb_bool, gb_undef, EVB, Option.bind_some, Nat.reduceEqDiff, reduceIte, beq_self_eq_true, Bool.not_true, Bool.not_false, beq_true, beq_false]; done) | omega | (with_reducible decide) | (simp only [List.length_cons, List.length_nil, List.size_toArray, List.toList_toArray, List.all_cons, List.all_nil, Go.Proofs.YtdfgdpjlbcnkfaaDoorAbs.oneC, Bool.and_self, Go.Proofs.YtdfgdpjlbcnkfaaDoorAbs.St.next_push, Go.Proofs.YtdfgdpjlbcnkfaaDoorAbs.St.next_upd, Nat.zero_add, Nat.reduceAdd, Nat.reduceLeDiff, Nat.le_refl, Nat.zero_le] <;> omega)) only [↓DN, ↓reduceIte, UP, Int.reduceEq, Int.reduceLT, Int.reduceLE, Nat.reduceEqDiff, Nat.reduceAdd, Nat.reduceMul, Nat.reduceSub, Int.reduceToNat, Nat.reduceLeDiff, PF, isStop, isP, goInt, beq_self_eq_true, decide_true, decide_false, Int.toNat_natCast, Int.natCast_zero, nn_eq, nn_ne])
    | ((first | (with_reducible show O _ _ _ _ _ _ _ _) | (with_reducible show OK _ _ _ _ _ _ _ _ _) | (with_reducible show OKF _ _ _ _ _ _ _ _ _ _) | (with_reducible show OKT _ _ _ _ _ _ _ _ _ _ _ _) | (with_reducible show _ ∧ _)); simp (disch := first | ((with_reducible show isStop _ = false); rfl) | ((with_reducible show isP _ = true); rfl) | ((with_reducible show (isStop _ || isP _) = false); rfl) | assumption | (simp only [gt_some, gb_bool, gb_undef, EVB, Option.bind_some, Nat.reduceEqDiff, reduceIte, beq_self_eq_true, Bool.not_true, Bool.not_false, beq_true, beq_false]; done) | omega | (with_reducible decide) | (simp only [List.length_cons, List.length_nil, List.size_toArray, List.toList_toArray, List.all_cons, List.all_nil, Go.Proofs.YtdfgdpjlbcnkfaaDoorAbs.oneC, Bool.and_self, Go.Proofs.YtdfgdpjlbcnkfaaDoorAbs.St.next_push, Go.Proofs.YtdfgdpjlbcnkfaaDoorAbs.St.next_upd, Nat.zero_add, Nat.reduceAdd, Nat.reduceLeDiff, Nat.le_refl, Nat.zero_le] <;> omega)) only [↓DN, ↓reduceIte, UP, Int.reduceEq, Int.reduceLT, Int.reduceLE, Nat.reduceEqDiff, Nat.reduceAdd, Nat.reduceMul, Nat.reduceSub, Int.reduceToNat, Nat.reduceLeDiff, PF, isStop, isP, goInt, beq_self_eq_true, decide_true, decide_false, Int.toNat_natCast, Int.natCast_zero, nn_eq, nn_ne])
    | ((with_reducible show O _ _ _ (⟨_, _, _, _, _, some _⟩ :: _) _ _ _ _); refine O_split (by simp (disch := first | ((with_reducible show isStop _ = false); rfl) | ((with_reducible show isP _ = true); rfl) | ((with_reducible show (isStop _ || isP _) = false); rfl) | assumption | (simp only [gt_some, gb_bool, gb_undef, EVB, Option.bind_some, Nat.reduceEqDiff, reduceIte, beq_self_eq_true, Bool.not_true, Bool.not_false, beq_true, beq_false]; done) | omega | (with_reducible decide) | (simp only [List.length_cons, List.length_nil, List.size_toArray, List.toList_toArray, List.all_cons, List.all_nil, Go.Proofs.YtdfgdpjlbcnkfaaDoorAbs.oneC, Bool.and_self, Go.Proofs.YtdfgdpjlbcnkfaaDoorAbs.St.next_push, Go.Proofs.YtdfgdpjlbcnkfaaDoorAbs.St.next_upd, Nat.zero_add, Nat.reduceAdd, Nat.reduceLeDiff, Nat.le_refl, Nat.zero_le] <;> omega)) only [↓DN, ↓reduceIte, UP, Int.reduceEq, Int.reduceLT, Int.reduceLE, Nat.reduceEqDiff, Nat.reduceAdd, Nat.reduceMul, Nat.reduceSub, Int.reduceToNat, Nat.reduceLeDiff, PF, isStop, isP, goInt, beq_self_eq_true, decide_true, decide_false, Int.toNat_natCast, Int.natCast_zero, nn_eq, nn_ne]; rfl) (fun ht => ?_) (fun ht => ?_) <;> (first | (simp only [Bool.true_eq_false, Bool.false_eq_true] at ht; done) | ((try simp only [Bool.not_eq_true', Bool.not_eq_false'] at ht); (try simp only [ht]); (try simp only [HTN] at ht); (try (exfalso; omega)))))
    | (exact hQ _))
  have hnum0 : ∀ (S' : St) (Q' : Value → St → Prop), Q' (.int .i64 0) S' → C Tryd.prog I 13 #[.nilIface] S' Q' := fun S' Q' hq => num_C h.toHI (e := none) hq
  have h6' : ∀ F1 F2 : Blk, ((S.push F1).push F2).get 6 = some ⟨tab64, 0, false, 0⟩ := fun F1 F2 => by rw [St.get_push_ne (S.push F1) _ (by simp only [St.next_push]; omega), St.get_push_ne _ _ (by omega)]; exact h6
  by_cases hlong : 20000 < xs.length
  · have hd : decide ((20000 : Int) < (xs.length : Int)) = true := decide_eq_true (by omega)
    repeat' (first
    | (with_reducible refine W_pushC fun K hK => ?_)
    | (with_reducible refine W_blockI ?_)
    | (with_reducible refine W_scopeI ?_)
    | (with_reducible refine W_labelI ?_)
    | (with_reducible refine W_skipI ?_)
    | (with_reducible refine W_retI ?_)
    | (with_reducible refine W_exitI ?_)
    | (with_reducible refine then_normalI ?_)
    | (with_reducible refine then_retI ?_)
    | (with_reducible refine then_exitI ?_)
    | (with_reducible refine inBlock_normalI ?_)
    | (with_reducible refine inBlock_retI ?_)
    | (with_reducible refine inBlock_exitI ?_)
    | (with_reducible refine inBlock_exitN (by decide) ?_)
    | ((with_reducible refine bodyQ_normal0 ?_); (try simp only [EVB, Nat.reduceEqDiff, reduceIte]))
    | ((with_reducible refine bodyQ_normal1 ?_); (try simp only [EVB, Nat.reduceEqDiff, reduceIte]))
    | ((with_reducible refine bodyQ_normal2 ?_); (try simp only [EVB, Nat.reduceEqDiff, reduceIte]))
    | ((with_reducible refine bodyQ_normal3 ?_); (try simp only [EVB, Nat.reduceEqDiff, reduceIte]))
    | ((with_reducible refine bodyQ_normal4 ?_); (try simp only [EVB, Nat.reduceEqDiff, reduceIte]))
    | ((with_reducible refine bodyQ_ret0 ?_); (try simp only [EVB, Nat.reduceEqDiff, reduceIte]))
    | ((with_reducible refine bodyQ_ret1 ?_); (try simp only [EVB, Nat.reduceEqDiff, reduceIte]))
    | ((with_reducible refine bodyQ_ret2 ?_); (try simp only [EVB, Nat.reduceEqDiff, reduceIte]))
    | ((with_reducible refine bodyQ_ret3 ?_); (try simp only [EVB, Nat.reduceEqDiff, reduceIte]))
    | ((with_reducible refine bodyQ_ret4 ?_); (try simp only [EVB, Nat.reduceEqDiff, reduceIte]))
    | ((with_reducible show C _ _ _ _ _ _); first | (refine New_C h.toHI (fun _ => ?_) (fun q => absurd q hbad)) | (refine hnum0 _ _ ?_) | (refine h.works _ _ (h6' _ _) ?_))
    | (with_reducible refine Cont.use (by assumption) ?_)
    | ((with_reducible show W _ _ (.cond _ _ _) _ _ _); refine W_condI (by simp (disch := first | ((with_reducible show isStop _ = false); rfl) | ((with_reducible show isP _ = true); rfl) | ((with_reducible show (isStop _ || isP _) = false); rfl) | assumption | (simp only [gt_some, gb_bool, gb_undef, EVB, Option.bind_some, Nat.reduceEqDiff, reduceIte, beq_self_eq_true, Bool.not_true, Bool.not_false, beq_true, beq_false]; done) | omega | (with_reducible decide) | (simp only [List.length_cons, List.length_nil, List.size_toArray, List.toList_toArray, List.all_cons, List.all_nil, Go.Proofs.YtdfgdpjlbcnkfaaDoorAbs.oneC, Bool.and_self, Go.Proofs.YtdfgdpjlbcnkfaaDoorAbs.St.next_push, Go.Proofs.YtdfgdpjlbcnkfaaDoorAbs.St.next_upd, Nat.zero_add, Nat.reduceAdd, Nat.reduceLeDiff, Nat.le_refl, Nat.zero_le] <;> omega)) only [↓DN, ↓reduceIte, UP, Int.reduceEq, Int.reduceLT, Int.reduceLE, Nat.reduceEqDiff, Nat.reduceAdd, Nat.reduceMul, Nat.reduceSub, Int.reduceToNat, Nat.reduceLeDiff, PF, isStop, isP, goInt, beq_self_eq_true, decide_true, decide_false, Int.toNat_natCast, Int.natCast_zero, nn_eq, nn_ne, hd]; rfl) (fun ht => ?_) (fun ht => ?_) <;> (first | (simp only [Bool.true_eq_false, Bool.false_eq_true] at ht; done) | ((try simp only [Bool.not_eq_true', Bool.not_eq_false'] at ht); (try simp only [ht]); (try simp only [HTN] at ht); (try (exfalso; omega)))))
    | ((with_reducible refine W_regionI ?_); simp (disch := first | ((with_reducible show isStop _ = false); rfl) | ((with_reducible show isP _ = true); rfl) | ((with_reducible show (isStop _ || isP _) = false); rfl) | assumption | (simp only [gt_some, gb_bool, gb_undef, EVB, Option.bind_some, Nat.reduceEqDiff, reduceIte, beq_self_eq_true, Bool.not_true, Bool.not_false, beq_true, beq_false]; done) | omega | (with_reducible decide) | (simp only [List.length_cons, List.length_nil, List.size_toArray, List.toList_toArray, List.all_cons, List.all_nil, Go.Proofs.YtdfgdpjlbcnkfaaDoorAbs.oneC, Bool.and_self, Go.Proofs.YtdfgdpjlbcnkfaaDoorAbs.St.next_push, Go.Proofs.YtdfgdpjlbcnkfaaDoorAbs.St.next_upd, Nat.zero_add, Nat.reduceAdd, Nat.reduceLeDiff, Nat.le_refl, Nat.zero_le] <;> omega)) only [↓DN, ↓reduceIte, UP, Int.reduceEq, Int.reduceLT, Int.reduceLE, Nat.reduceEqDiff, Nat.reduceAdd, Nat.reduceMul, Nat.reduceSub, Int.reduceToNat, Nat.reduceLeDiff, PF, isStop, isP, goInt, beq_self_eq_true, decide_true, decide_false, Int.toNat_natCast, Int.natCast_zero, nn_eq, nn_ne, hd])
    | ((first | (with_reducible show O _ _ _ _ _ _ _ _) | (with_reducible show OK _ _ _ _ _ _ _ _ _) | (with_reducible show OKF _ _ _ _ _ _ _ _ _ _) | (with_reducible show OKT _ _ _ _ _ _ _ _ _ _ _ _) | (with_reducible show _ ∧ _)); simp (disch := first | ((with_reducible show isStop _ = false); rfl) | ((with_reducible show isP _ = true); rfl) | ((with_reducible show (isStop _ || isP _) = false); rfl) | assumption | (simp only [gt_some, gb_bool, gb_undef, EVB, Option.bind_some, Nat.reduceEqDiff, reduceIte, beq_self_eq_true, Bool.not_true, Bool.not_false, beq_true, beq_false]; done) | omega | (with_reducible decide) | (simp only [List.length_cons, List.length_nil, List.size_toArray, List.toList_toArray, List.all_cons, List.all_nil, Go.Proofs.YtdfgdpjlbcnkfaaDoorAbs.oneC, Bool.and_self, Go.Proofs.YtdfgdpjlbcnkfaaDoorAbs.St.next_push, Go.Proofs.YtdfgdpjlbcnkfaaDoorAbs.St.next_upd, Nat.zero_add, Nat.reduceAdd, Nat.reduceLeDiff, Nat.le_refl, Nat.zero_le] <;> omega)) only [↓DN, ↓reduceIte, UP, Int.reduceEq, Int.reduceLT, Int.reduceLE, Nat.reduceEqDiff, Nat.reduceAdd, Nat.reduceMul, Nat.reduceSub, Int.reduceToNat, Nat.reduceLeDiff, PF, isStop, isP, goInt, beq_self_eq_true, decide_true, decide_false, Int.toNat_natCast, Int.natCast_zero, nn_eq, nn_ne, hd])
    | ((with_reducible show O _ _ _ (⟨_, _, _, _, _, some _⟩ :: _) _ _ _ _); refine O_split (by simp (disch := first | ((with_reducible show isStop _ = false); rfl) | ((with_reducible show isP _ = true); rfl) | ((with_reducible show (isStop _ || isP _) = false); rfl) | assumption | (simp only [gt_some, gb_bool, gb_undef, EVB, Option.bind_some, Nat.reduceEqDiff, reduceIte, beq_self_eq_true, Bool.not_true, Bool.not_false, beq_true, beq_false]; done) | omega | (with_reducible decide) | (simp only [List.length_cons, List.length_nil, List.size_toArray, List.toList_toArray, List.all_cons, List.all_nil, Go.Proofs.YtdfgdpjlbcnkfaaDoorAbs.oneC, Bool.and_self, Go.Proofs.YtdfgdpjlbcnkfaaDoorAbs.St.next_push, Go.Proofs.YtdfgdpjlbcnkfaaDoorAbs.St.next_upd, Nat.zero_add, Nat.reduceAdd, Nat.reduceLeDiff, Nat.le_refl, Nat.zero_le] <;> omega)) only [↓DN, ↓reduceIte, UP, Int.reduceEq, Int.reduceLT, Int.reduceLE, Nat.reduceEqDiff, Nat.reduceAdd, Nat.reduceMul, Nat.reduceSub, Int.reduceToNat, Nat.reduceLeDiff, PF, isStop, isP, goInt, beq_self_eq_true, decide_true, decide_false, Int.toNat_natCast, Int.natCast_zero, nn_eq, nn_ne, hd]; rfl) (fun ht => ?_) (fun ht => ?_) <;> (first | (simp only [Bool.true_eq_false, Bool.false_eq_true] at ht; done) | ((try simp only [Bool.not_eq_true', Bool.not_eq_false'] at ht); (try simp only [ht]); (try simp only [HTN] at ht); (try (exfalso; omega)))))
    | (exact hQ _))
  have hd : decide ((20000 : Int) < (xs.length : Int)) = false := decide_eq_false (by omega)
  repeat' (first
    | (with_reducible refine W_pushC fun K hK => ?_)
    | (with_reducible refine W_blockI ?_)
    | (with_reducible refine W_scopeI ?_)
    | (with_reducible refine W_labelI ?_)
    | (with_reducible refine W_skipI ?_)
    | (with_reducible refine W_retI ?_)
    | (with_reducible refine W_exitI ?_)
    | (with_reducible refine then_normalI ?_)
    | (with_reducible refine then_retI ?_)
    | (with_reducible refine then_exitI ?_)
    | (with_reducible refine inBlock_normalI ?_)
    | (with_reducible refine inBlock_retI ?_)
    | (with_reducible refine inBlock_exitI ?_)
    | (with_reducible refine inBlock_exitN (by decide) ?_)
    | ((with_reducible refine bodyQ_normal0 ?_); (try simp only [EVB, Nat.reduceEqDiff, reduceIte]))
    | ((with_reducible refine bodyQ_normal1 ?_); (try simp only [EVB, Nat.reduceEqDiff, reduceIte]))
    | ((with_reducible refine bodyQ_normal2 ?_); (try simp only [EVB, Nat.reduceEqDiff, reduceIte]))
    | ((with_reducible refine bodyQ_normal3 ?_); (try simp only [EVB, Nat.reduceEqDiff, reduceIte]))
    | ((with_reducible refine bodyQ_normal4 ?_); (try simp only [EVB, Nat.reduceEqDiff, reduceIte]))
    | ((with_reducible refine bodyQ_ret0 ?_); (try simp only [EVB, Nat.reduceEqDiff, reduceIte]))
    | ((with_reducible refine bodyQ_ret1 ?_); (try simp only [EVB, Nat.reduceEqDiff, reduceIte]))
    | ((with_reducible refine bodyQ_ret2 ?_); (try simp only [EVB, Nat.reduceEqDiff, reduceIte]))
    | ((with_reducible refine bodyQ_ret3 ?_); (try simp only [EVB, Nat.reduceEqDiff, reduceIte]))
    | ((with_reducible refine bodyQ_ret4 ?_); (try simp only [EVB, Nat.reduceEqDiff, reduceIte]))
    | ((with_reducible show C _ _ _ _ _ _); first | (refine New_C h.toHI (fun _ => ?_) (fun q => absurd q hbad)) | (refine hnum0 _ _ ?_))
    | (with_reducible refine Cont.use (by assumption) ?_)
    | ((with_reducible show W _ _ (.cond _ _ _) _ _ _); refine W_condI (by simp (disch := first | ((with_reducible show isStop _ = false); rfl) | ((with_reducible show isP _ = true); rfl) | ((with_reducible show (isStop _ || isP _) = false); rfl) | assumption | (simp only [gt_some, gb_bool, gb_undef, EVB, Option.bind_some, Nat.reduceEqDiff, reduceIte, beq_self_eq_true, Bool.not_true, Bool.not_false, beq_true, beq_false]; done) | omega | (with_reducible decide) | (simp only [List.length_cons, List.length_nil, List.size_toArray, List.toList_toArray, List.all_cons, List.all_nil, Go.Proofs.YtdfgdpjlbcnkfaaDoorAbs.oneC, Bool.and_self, Go.Proofs.YtdfgdpjlbcnkfaaDoorAbs.St.next_push, Go.Proofs.YtdfgdpjlbcnkfaaDoorAbs.St.next_upd, Nat.zero_add, Nat.reduceAdd, Nat.reduceLeDiff, Nat.le_refl, Nat.zero_le] <;> omega)) only [↓DN, ↓reduceIte, UP, Int.reduceEq, Int.reduceLT, Int.reduceLE, Nat.reduceEqDiff, Nat.reduceAdd, Nat.reduceMul, Nat.reduceSub, Int.reduceToNat, Nat.reduceLeDiff, PF, isStop, isP, goInt, beq_self_eq_true, decide_true, decide_false, Int.toNat_natCast, Int.natCast_zero, nn_eq, nn_ne, hd]; rfl) (fun ht => ?_) (fun ht => ?_) <;> (first | (simp only [Bool.true_eq_false, Bool.false_eq_true] at ht; done) | ((try simp only [Bool.not_eq_true', Bool.not_eq_false'] at ht); (try simp only [ht]); (try simp only [HTN] at ht); (try (exfalso; omega)))))
    | ((with_reducible refine W_regionI ?_); simp (disch := first | ((with_reducible show isStop _ = false); rfl) | ((with_reducible show isP _ = true); rfl) | ((with_reducible show (isStop _ || isP _) = false); rfl) | assumption | (simp only [gt_some, gb_bool, gb_undef, EVB, Option.bind_some, Nat.reduceEqDiff, reduceIte, beq_self_eq_true, Bool.not_true, Bool.not_false, beq_true, beq_false]; done) | omega | (with_reducible decide) | (simp only [List.length_cons, List.length_nil, List.size_toArray, List.toList_toArray, List.all_cons, List.all_nil, Go.Proofs.YtdfgdpjlbcnkfaaDoorAbs.oneC, Bool.and_self, Go.Proofs.YtdfgdpjlbcnkfaaDoorAbs.St.next_push, Go.Proofs.YtdfgdpjlbcnkfaaDoorAbs.St.next_upd, Nat.zero_add, Nat.reduceAdd, Nat.reduceLeDiff, Nat.le_refl, Nat.zero_le] <;> omega)) only [↓DN, ↓reduceIte, UP, Int.reduceEq, Int.reduceLT, Int.reduceLE, Nat.reduceEqDiff, Nat.reduceAdd, Nat.reduceMul, Nat.reduceSub, Int.reduceToNat, Nat.reduceLeDiff, PF, isStop, isP, goInt, beq_self_eq_true, decide_true, decide_false, Int.toNat_natCast, Int.natCast_zero, nn_eq, nn_ne, hd])
    | ((first | (with_reducible show O _ _ _ _ _ _ _ _) | (with_reducible show OK _ _ _ _ _ _ _ _ _) | (with_reducible show OKF _ _ _ _ _ _ _ _ _ _) | (with_reducible show OKT _ _ _ _ _ _ _ _ _ _ _ _) | (with_reducible show _ ∧ _)); simp (disch := first | ((with_reducible show isStop _ = false); rfl) | ((with_reducible show isP _ = true); rfl) | ((with_reducible show (isStop _ || isP _) = false); rfl) | assumption | (simp only [gt_some, gb_bool, gb_undef, EVB, Option.bind_some, Nat.reduceEqDiff, reduceIte, beq_self_eq_true, Bool.not_true, Bool.not_false, beq_true, beq_false]; done) | omega | (with_reducible decide) | (simp only [List.length_cons, List.length_nil, List.size_toArray, List.toList_toArray, List.all_cons, List.all_nil, Go.Proofs.YtdfgdpjlbcnkfaaDoorAbs.oneC, Bool.and_self, Go.Proofs.YtdfgdpjlbcnkfaaDoorAbs.St.next_push, Go.Proofs.YtdfgdpjlbcnkfaaDoorAbs.St.next_upd, Nat.zero_add, Nat.reduceAdd, Nat.reduceLeDiff, Nat.le_refl, Nat.zero_le] <;> omega)) only [↓DN, ↓reduceIte, UP, Int.reduceEq, Int.reduceLT, Int.reduceLE, Nat.reduceEqDiff, Nat.reduceAdd, Nat.reduceMul, Nat.reduceSub, Int.reduceToNat, Nat.reduceLeDiff, PF, isStop, isP, goInt, beq_self_eq_true, decide_true, decide_false, Int.toNat_natCast, Int.natCast_zero, nn_eq, nn_ne, hd])
    | ((with_reducible show O _ _ _ (⟨_, _, _, _, _, some _⟩ :: _) _ _ _ _); refine O_split (by simp (disch := first | ((with_reducible show isStop _ = false); rfl) | ((with_reducible show isP _ = true); rfl) | ((with_reducible show (isStop _ || isP _) = false); rfl) | assumption | (simp only [gt_some, gb_bool, gb_undef, EVB, Option.bind_some, Nat.reduceEqDiff, reduceIte, beq_self_eq_true, Bool.not_true, Bool.not_false, beq_true, beq_false]; done) | omega | (with_reducible decide) | (simp only [List.length_cons, List.length_nil, List.size_toArray, List.toList_toArray, List.all_cons, List.all_nil, Go.Proofs.YtdfgdpjlbcnkfaaDoorAbs.oneC, Bool.and_self, Go.Proofs.YtdfgdpjlbcnkfaaDoorAbs.St.next_push, Go.Proofs.YtdfgdpjlbcnkfaaDoorAbs.St.next_upd, Nat.zero_add, Nat.reduceAdd, Nat.reduceLeDiff, Nat.le_refl, Nat.zero_le] <;> omega)) only [↓DN, ↓reduceIte, UP, Int.reduceEq, Int.reduceLT, Int.reduceLE, Nat.reduceEqDiff, Nat.reduceAdd, Nat.reduceMul, Nat.reduceSub, Int.reduceToNat, Nat.reduceLeDiff, PF, isStop, isP, goInt, beq_self_eq_true, decide_true, decide_false, Int.toNat_natCast, Int.natCast_zero, nn_eq, nn_ne, hd]; rfl) (fun ht => ?_) (fun ht => ?_) <;> (first | (simp only [Bool.true_eq_false, Bool.false_eq_true] at ht; done) | ((try simp only [Bool.not_eq_true', Bool.not_eq_false'] at ht); (try simp only [ht]); (try simp only [HTN] at ht); (try (exfalso; omega))))))
  obtain ⟨S2, hS2⟩ : ∃ S2, S2 = (S.push ⟨(CR.fresh (.slice none 0 0) (.slice none 0 0) most).cells, 62, true, 0⟩).push ⟨(CR.fresh (.slice none 0 0) (.slice none 0 0) most).cells, 62, true, 0⟩ := ⟨_, rfl⟩
  rw [← hS2]
  have n2 : S2.next = S.next + 2 := by rw [hS2]; rfl
  have kS2 : Kept S S2 none := by rw [hS2]; exact (Kept.push _ none).trans (Kept.push _ none)
  have gx : S2.get S.next = some ⟨(CR.fresh (.slice none 0 0) (.slice none 0 0) most).cells, 62, true, 0⟩ := by rw [hS2, St.get_push_ne (S.push _) _ (by simp only [St.next_push]; omega)]; exact S.get_push_self _
  have gy : S2.get (S.next + 1) = some ⟨(CR.fresh (.slice none 0 0) (.slice none 0 0) most).cells, 62, true, 0⟩ := by rw [hS2]; exact St.get_push_self (S.push _) _
  have hRx := fresh_rd (most := most) gx (by omega)
  have hRy := fresh_rd (most := most) gy (by omega)
  refine twin_C h.toHI (sl_kept hx kS2 (by simp)) (by omega) fun v1 S3 hO1 hK1 hB1 => ?_
  have hRx3 := hRx.kept hK1 (by simp)
  have hRy3 := hRy.kept hK1 (by simp)
  have hap1 : Apart v1 S.next (.slice none 0 0) (.slice none 0 0) := fun i hi => ⟨by have := hB1 i hi; omega, by simp [blkOf], by simp [blkOf]⟩
  repeat' (first
    | (with_reducible refine W_pushC fun K hK => ?_)
    | (with_reducible refine W_blockI ?_)
    | (with_reducible refine W_scopeI ?_)
    | (with_reducible refine W_labelI ?_)
    | (with_reducible refine W_skipI ?_)
    | (with_reducible refine W_retI ?_)
    | (with_reducible refine W_exitI ?_)
    | (with_reducible refine then_normalI ?_)
    | (with_reducible refine then_retI ?_)
    | (with_reducible refine then_exitI ?_)
    | (with_reducible refine inBlock_normalI ?_)
    | (with_reducible refine inBlock_retI ?_)
    | (with_reducible refine inBlock_exitI ?_)
    | (with_reducible refine inBlock_exitN (by decide) ?_)
    | ((with_reducible refine bodyQ_normal0 ?_); (try simp only [EVB, Nat.reduceEqDiff, reduceIte]))
    | ((with_reducible refine bodyQ_normal1 ?_); (try simp only [EVB, Nat.reduceEqDiff, reduceIte]))
    | ((with_reducible refine bodyQ_normal2 ?_); (try simp only [EVB, Nat.reduceEqDiff, reduceIte]))
    | ((with_reducible refine bodyQ_normal3 ?_); (try simp only [EVB, Nat.reduceEqDiff, reduceIte]))
    | ((with_reducible refine bodyQ_normal4 ?_); (try simp only [EVB, Nat.reduceEqDiff, reduceIte]))
    | ((with_reducible refine bodyQ_ret0 ?_); (try simp only [EVB, Nat.reduceEqDiff, reduceIte]))
    | ((with_reducible refine bodyQ_ret1 ?_); (try simp only [EVB, Nat.reduceEqDiff, reduceIte]))
    | ((with_reducible refine bodyQ_ret2 ?_); (try simp only [EVB, Nat.reduceEqDiff, reduceIte]))
    | ((with_reducible refine bodyQ_ret3 ?_); (try simp only [EVB, Nat.reduceEqDiff, reduceIte]))
    | ((with_reducible refine bodyQ_ret4 ?_); (try simp only [EVB, Nat.reduceEqDiff, reduceIte]))
    | ((with_reducible show C _ _ _ _ _ _); first | (refine Feed_C h.toHI hRx3 (fresh_inv hbad) (sl_own hO1) hap1 (fun i hi => own_lt hO1 hi) (by omega) (fun S4 tx lx mx ov hRx4 hix4 hMx hOv hnv hapv => ?_)))
    | (with_reducible refine Cont.use (by assumption) ?_)
    | ((with_reducible show W _ _ (.cond _ _ _) _ _ _); refine W_condI (by simp (disch := first | ((with_reducible show isStop _ = false); rfl) | ((with_reducible show isP _ = true); rfl) | ((with_reducible show (isStop _ || isP _) = false); rfl) | assumption | (simp only [gt_some, gb_bool, gb_undef, EVB, Option.bind_some, Nat.reduceEqDiff, reduceIte, beq_self_eq_true, Bool.not_true, Bool.not_false, beq_true, beq_false]; done) | omega | (with_reducible decide) | (simp only [List.length_cons, List.length_nil, List.size_toArray, List.toList_toArray, List.all_cons, List.all_nil, Go.Proofs.YtdfgdpjlbcnkfaaDoorAbs.oneC, Bool.and_self, Go.Proofs.YtdfgdpjlbcnkfaaDoorAbs.St.next_push, Go.Proofs.YtdfgdpjlbcnkfaaDoorAbs.St.next_upd, Nat.zero_add, Nat.reduceAdd, Nat.reduceLeDiff, Nat.le_refl, Nat.zero_le] <;> omega)) only [↓DN, ↓reduceIte, UP, Int.reduceEq, Int.reduceLT, Int.reduceLE, Nat.reduceEqDiff, Nat.reduceAdd, Nat.reduceMul, Nat.reduceSub, Int.reduceToNat, Nat.reduceLeDiff, PF, isStop, isP, goInt, beq_self_eq_true, decide_true, decide_false, Int.toNat_natCast, Int.natCast_zero, nn_eq, nn_ne]; rfl) (fun ht => ?_) (fun ht => ?_) <;> (first | (simp only [Bool.true_eq_false, Bool.false_eq_true] at ht; done) | ((try simp only [Bool.not_eq_true', Bool.not_eq_false'] at ht); (try simp only [ht]); (try simp only [HTN] at ht); (try (exfalso; omega)))))
    | ((with_reducible refine W_regionI ?_); simp (disch := first | ((with_reducible show isStop _ = false); rfl) | ((with_reducible show isP _ = true); rfl) | ((with_reducible show (isStop _ || isP _) = false); rfl) | assumption | (simp only [gt_some, gb_bool, gb_undef, EVB, Option.bind_some, Nat.reduceEqDiff, reduceIte, beq_self_eq_true, Bool.not_true, Bool.not_false, beq_true, beq_false]; done) | omega | (with_reducible decide) | (simp only [List.length_cons, List.length_nil, List.size_toArray, List.toList_toArray, List.all_cons, List.all_nil, Go.Proofs.YtdfgdpjlbcnkfaaDoorAbs.oneC, Bool.and_self, Go.Proofs.YtdfgdpjlbcnkfaaDoorAbs.St.next_push, Go.Proofs.YtdfgdpjlbcnkfaaDoorAbs.St.next_upd, Nat.zero_add, Nat.reduceAdd, Nat.reduceLeDiff, Nat.le_refl, Nat.zero_le] <;> omega)) only [↓DN, ↓reduceIte, UP, Int.reduceEq, Int.reduceLT, Int.reduceLE, Nat.reduceEqDiff, Nat.reduceAdd, Nat.reduceMul, Nat.reduceSub, Int.reduceToNat, Nat.reduceLeDiff, PF, isStop, isP, goInt, beq_self_eq_true, decide_true, decide_false, Int.toNat_natCast, Int.natCast_zero, nn_eq, nn_ne])
    | ((first | (with_reducible show O _ _ _ _ _ _ _ _) | (with_reducible show OK _ _ _ _ _ _ _ _ _) | (with_reducible show OKF _ _ _ _ _ _ _ _ _ _) | (with_reducible show OKT _ _ _ _ _ _ _ _ _ _ _ _) | (with_reducible show _ ∧ _)); simp (disch := first | ((with_reducible show isStop _ = false); rfl) | ((with_reducible show isP _ = true); rfl) | ((with_reducible show (isStop _ || isP _) = false); rfl) | assumption | (simp only [gt_some, gb_bool, gb_undef, EVB, Option.bind_some, Nat.reduceEqDiff, reduceIte, beq_self_eq_true, Bool.not_true, Bool.not_false, beq_true, beq_false]; done) | omega | (with_reducible decide) | (simp only [List.length_cons, List.length_nil, List.size_toArray, List.toList_toArray, List.all_cons, List.all_nil, Go.Proofs.YtdfgdpjlbcnkfaaDoorAbs.oneC, Bool.and_self, Go.Proofs.YtdfgdpjlbcnkfaaDoorAbs.St.next_push, Go.Proofs.YtdfgdpjlbcnkfaaDoorAbs.St.next_upd, Nat.zero_add, Nat.reduceAdd, Nat.reduceLeDiff, Nat.le_refl, Nat.zero_le] <;> omega)) only [↓DN, ↓reduceIte, UP, Int.reduceEq, Int.reduceLT, Int.reduceLE, Nat.reduceEqDiff, Nat.reduceAdd, Nat.reduceMul, Nat.reduceSub, Int.reduceToNat, Nat.reduceLeDiff, PF, isStop, isP, goInt, beq_self_eq_true, decide_true, decide_false, Int.toNat_natCast, Int.natCast_zero, nn_eq, nn_ne])
    | ((with_reducible show O _ _ _ (⟨_, _, _, _, _, some _⟩ :: _) _ _ _ _); refine O_split (by simp (disch := first | ((with_reducible show isStop _ = false); rfl) | ((with_reducible show isP _ = true); rfl) | ((with_reducible show (isStop _ || isP _) = false); rfl) | assumption | (simp only [gt_some, gb_bool, gb_undef, EVB, Option.bind_some, Nat.reduceEqDiff, reduceIte, beq_self_eq_true, Bool.not_true, Bool.not_false, beq_true, beq_false]; done) | omega | (with_reducible decide) | (simp only [List.length_cons, List.length_nil, List.size_toArray, List.toList_toArray, List.all_cons, List.all_nil, Go.Proofs.YtdfgdpjlbcnkfaaDoorAbs.oneC, Bool.and_self, Go.Proofs.YtdfgdpjlbcnkfaaDoorAbs.St.next_push, Go.Proofs.YtdfgdpjlbcnkfaaDoorAbs.St.next_upd, Nat.zero_add, Nat.reduceAdd, Nat.reduceLeDiff, Nat.le_refl, Nat.zero_le] <;> omega)) only [↓DN, ↓reduceIte, UP, Int.reduceEq, Int.reduceLT, Int.reduceLE, Nat.reduceEqDiff, Nat.reduceAdd, Nat.reduceMul, Nat.reduceSub, Int.reduceToNat, Nat.reduceLeDiff, PF, isStop, isP, goInt, beq_self_eq_true, decide_true, decide_false, Int.toNat_natCast, Int.natCast_zero, nn_eq, nn_ne]; rfl) (fun ht => ?_) (fun ht => ?_) <;> (first | (simp only [Bool.true_eq_false, Bool.false_eq_true] at ht; done) | ((try simp only [Bool.not_eq_true', Bool.not_eq_false'] at ht); (try simp only [ht]); (try simp only [HTN] at ht); (try (exfalso; omega))))))
  clear hK K
  have hkx : Kept S3 S4 (some S.next) := ⟨hMx.next, fun i hi hne => hMx.keep i hi (fun e => hne (by rw [e])) (by simp [blkOf]) (by simp [blkOf])⟩
  have hRy4 := hRy3.kept hkx (fun i hi => by cases hi; exact ⟨by omega, by simp [blkOf], by simp [blkOf]⟩)
  have n3 : S2.next ≤ S3.next := hK1.1
  have n4 : S3.next ≤ S4.next := hkx.1
  have k4 : Kept S S4 none := ⟨by omega, fun i hi _ => ((hkx.2 i (by omega) (by simp; omega)).trans (hK1.2 i (by omega) (by simp))).trans (kS2.2 i hi (by simp))⟩
  have h64 : S4.get 6 = some ⟨tab64, 0, false, 0⟩ := (k4.2 6 h6n (by simp)).trans h6
  generalize hr0 : (CR.fresh [] [] most : PRd) = r0 at *
  have hiy4 : RInv r0 := hr0 ▸ fresh_inv hbad
  have hxl : ∀ i, blkOf tx = some i → S.next + 1 ≠ i := by
    intro i hi e
    rcases hMx.t i hi with q | q
    · simp [blkOf] at q
    · omega
  have hll : ∀ i, blkOf lx = some i → S.next + 1 ≠ i := by
    intro i hi e
    rcases hMx.l i hi with q | q
    · simp [blkOf] at q
    · omega
  have hol : ∀ i, blkOf ov = some i → S.next + 1 ≠ i := by
    intro i hi e
    have := hnv i hi
    omega
  obtain ⟨oa, oc, rfl⟩ := own_slice hOv
  have fin : ∀ (e : Env) (S5 : St) (ry : PRd) (ty ly av : Value) (my : Nat), e.get 2 = .int .i64 most → e.get 7 = .pointer (some ⟨S.next, 0, some 11⟩) → e.get 9 = .pointer (some ⟨S.next + 1, 0, some 11⟩) → e.get 11 = .int .i64 (feedF r0 xs).1 → e.get 12 = .slice oa (feedF r0 xs).2.1.length oc →
      e.get 13 = .bool (decide ((feedF r0 xs).2.2.state = 8)) → e.get 14 = errW (feedF r0 xs).2.2.err → e.get 15 = av → e.get 16 = .int .i64 (feedF r0 xs).1 → Kept S4 S5 (some (S.next + 1)) → Rd S5 (S.next + 1) (feedF r0 xs).2.2 ty ly my → (∀ i, blkOf ty = some i → S4.next ≤ i) → (∀ i, blkOf ly = some i → S4.next ≤ i) →
      Own 5 1 S5 av (feedF r0 xs).2.1.length (u8v (feedF r0 xs).2.1) → Apart av (S.next + 1) ty ly → K .normal e S5 := by
    intro e S5 ry ty ly av my e2 e7 e9 e11 e12 e13 e14 e15 e16 kS5 hRy5 hty hly hOa hapa
    have hfl := feed_len xs r0
    have hfi := feed_inv xs r0 hiy4
    have hfs := feed_le xs r0
    have hr0l : r0.len = 0 ∧ r0.most = most := by rw [← hr0]; exact ⟨rfl, rfl⟩
    generalize hR : (feedF r0 xs).2.2 = R at *
    generalize hOL : (feedF r0 xs).2.1 = outL at *
    generalize hNN : (feedF r0 xs).1 = NN at *
    have hle : decide ((outL.length : Int) ≤ most) = true := decide_eq_true (by have := hfi.len; omega)
    have htn := hfi.trl.1
    refine Cont.use hK ?_
    repeat' (first
    | (with_reducible refine W_pushC fun K hK => ?_)
    | (with_reducible refine W_blockI ?_)
    | (with_reducible refine W_scopeI ?_)
    | (with_reducible refine W_labelI ?_)
    | (with_reducible refine W_skipI ?_)
    | (with_reducible refine W_retI ?_)
    | (with_reducible refine W_exitI ?_)
    | (with_reducible refine then_normalI ?_)
    | (with_reducible refine then_retI ?_)
    | (with_reducible refine then_exitI ?_)
    | (with_reducible refine inBlock_normalI ?_)
    | (with_reducible refine inBlock_retI ?_)
    | (with_reducible refine inBlock_exitI ?_)
    | (with_reducible refine inBlock_exitN (by decide) ?_)
    | ((with_reducible refine bodyQ_normal0 ?_); (try simp only [EVB, Nat.reduceEqDiff, reduceIte]))
    | ((with_reducible refine bodyQ_normal1 ?_); (try simp only [EVB, Nat.reduceEqDiff, reduceIte]))
    | ((with_reducible refine bodyQ_normal2 ?_); (try simp only [EVB, Nat.reduceEqDiff, reduceIte]))
    | ((with_reducible refine bodyQ_normal3 ?_); (try simp only [EVB, Nat.reduceEqDiff, reduceIte]))
    | ((with_reducible refine bodyQ_normal4 ?_); (try simp only [EVB, Nat.reduceEqDiff, reduceIte]))
    | ((with_reducible refine bodyQ_ret0 ?_); (try simp only [EVB, Nat.reduceEqDiff, reduceIte]))
    | ((with_reducible refine bodyQ_ret1 ?_); (try simp only [EVB, Nat.reduceEqDiff, reduceIte]))
    | ((with_reducible refine bodyQ_ret2 ?_); (try simp only [EVB, Nat.reduceEqDiff, reduceIte]))
    | ((with_reducible refine bodyQ_ret3 ?_); (try simp only [EVB, Nat.reduceEqDiff, reduceIte]))
    | ((with_reducible refine bodyQ_ret4 ?_); (try simp only [EVB, Nat.reduceEqDiff, reduceIte]))
    | ((with_reducible show C _ _ _ _ _ _); first | ((refine FeedNil_C h.toHI hRy5 hfi (fun S6 ty6 ly6 m6 hR6 hM6 => ?_))))
    | (with_reducible refine Cont.use (by assumption) ?_)
    | ((with_reducible show W _ _ (.cond _ _ _) _ _ _); refine W_condI (by simp (disch := first | ((with_reducible show isStop _ = false); rfl) | ((with_reducible show isP _ = true); rfl) | ((with_reducible show (isStop _ || isP _) = false); rfl) | assumption | (simp only [gt_some, gb_bool, gb_undef, EVB, Option.bind_some, Nat.reduceEqDiff, reduceIte, beq_self_eq_true, Bool.not_true, Bool.not_false, beq_true, beq_false]; done) | omega | (with_reducible decide) | (simp only [List.length_cons, List.length_nil, List.size_toArray, List.toList_toArray, List.all_cons, List.all_nil, Go.Proofs.YtdfgdpjlbcnkfaaDoorAbs.oneC, Bool.and_self, Go.Proofs.YtdfgdpjlbcnkfaaDoorAbs.St.next_push, Go.Proofs.YtdfgdpjlbcnkfaaDoorAbs.St.next_upd, Nat.zero_add, Nat.reduceAdd, Nat.reduceLeDiff, Nat.le_refl, Nat.zero_le] <;> omega)) only [↓DN, ↓reduceIte, UP, Int.reduceEq, Int.reduceLT, Int.reduceLE, Nat.reduceEqDiff, Nat.reduceAdd, Nat.reduceMul, Nat.reduceSub, Int.reduceToNat, Nat.reduceLeDiff, PF, isStop, isP, goInt, beq_self_eq_true, decide_true, decide_false, Int.toNat_natCast, Int.natCast_zero, nn_eq, nn_ne, e2, e7, e9, e11, e12, e13, e14, e15, e16]; rfl) (fun ht => ?_) (fun ht => ?_) <;> (first | (simp only [Bool.true_eq_false, Bool.false_eq_true] at ht; done) | ((try simp only [Bool.not_eq_true', Bool.not_eq_false'] at ht); (try simp only [ht]); (try simp only [HTN] at ht); (try (exfalso; omega)))))
    | ((with_reducible refine W_regionI ?_); simp (disch := first | ((with_reducible show isStop _ = false); rfl) | ((with_reducible show isP _ = true); rfl) | ((with_reducible show (isStop _ || isP _) = false); rfl) | assumption | (simp only [gt_some, gb_bool, gb_undef, EVB, Option.bind_some, Nat.reduceEqDiff, reduceIte, beq_self_eq_true, Bool.not_true, Bool.not_false, beq_true, beq_false]; done) | omega | (with_reducible decide) | (simp only [List.length_cons, List.length_nil, List.size_toArray, List.toList_toArray, List.all_cons, List.all_nil, Go.Proofs.YtdfgdpjlbcnkfaaDoorAbs.oneC, Bool.and_self, Go.Proofs.YtdfgdpjlbcnkfaaDoorAbs.St.next_push, Go.Proofs.YtdfgdpjlbcnkfaaDoorAbs.St.next_upd, Nat.zero_add, Nat.reduceAdd, Nat.reduceLeDiff, Nat.le_refl, Nat.zero_le] <;> omega)) only [↓DN, ↓reduceIte, UP, Int.reduceEq, Int.reduceLT, Int.reduceLE, Nat.reduceEqDiff, Nat.reduceAdd, Nat.reduceMul, Nat.reduceSub, Int.reduceToNat, Nat.reduceLeDiff, PF, isStop, isP, goInt, beq_self_eq_true, decide_true, decide_false, Int.toNat_natCast, Int.natCast_zero, nn_eq, nn_ne, e2, e7, e9, e11, e12, e13, e14, e15, e16])
    | ((first | (with_reducible show O _ _ _ _ _ _ _ _) | (with_reducible show OK _ _ _ _ _ _ _ _ _) | (with_reducible show OKF _ _ _ _ _ _ _ _ _ _) | (with_reducible show OKT _ _ _ _ _ _ _ _ _ _ _ _) | (with_reducible show _ ∧ _)); simp (disch := first | ((with_reducible show isStop _ = false); rfl) | ((with_reducible show isP _ = true); rfl) | ((with_reducible show (isStop _ || isP _) = false); rfl) | assumption | (simp only [gt_some, gb_bool, gb_undef, EVB, Option.bind_some, Nat.reduceEqDiff, reduceIte, beq_self_eq_true, Bool.not_true, Bool.not_false, beq_true, beq_false]; done) | omega | (with_reducible decide) | (simp only [List.length_cons, List.length_nil, List.size_toArray, List.toList_toArray, List.all_cons, List.all_nil, Go.Proofs.YtdfgdpjlbcnkfaaDoorAbs.oneC, Bool.and_self, Go.Proofs.YtdfgdpjlbcnkfaaDoorAbs.St.next_push, Go.Proofs.YtdfgdpjlbcnkfaaDoorAbs.St.next_upd, Nat.zero_add, Nat.reduceAdd, Nat.reduceLeDiff, Nat.le_refl, Nat.zero_le] <;> omega)) only [↓DN, ↓reduceIte, UP, Int.reduceEq, Int.reduceLT, Int.reduceLE, Nat.reduceEqDiff, Nat.reduceAdd, Nat.reduceMul, Nat.reduceSub, Int.reduceToNat, Nat.reduceLeDiff, PF, isStop, isP, goInt, beq_self_eq_true, decide_true, decide_false, Int.toNat_natCast, Int.natCast_zero, nn_eq, nn_ne, e2, e7, e9, e11, e12, e13, e14, e15, e16])
    | ((with_reducible show O _ _ _ (⟨_, _, _, _, _, some _⟩ :: _) _ _ _ _); refine O_split (by simp (disch := first | ((with_reducible show isStop _ = false); rfl) | ((with_reducible show isP _ = true); rfl) | ((with_reducible show (isStop _ || isP _) = false); rfl) | assumption | (simp only [gt_some, gb_bool, gb_undef, EVB, Option.bind_some, Nat.reduceEqDiff, reduceIte, beq_self_eq_true, Bool.not_true, Bool.not_false, beq_true, beq_false]; done) | omega | (with_reducible decide) | (simp only [List.length_cons, List.length_nil, List.size_toArray, List.toList_toArray, List.all_cons, List.all_nil, Go.Proofs.YtdfgdpjlbcnkfaaDoorAbs.oneC, Bool.and_self, Go.Proofs.YtdfgdpjlbcnkfaaDoorAbs.St.next_push, Go.Proofs.YtdfgdpjlbcnkfaaDoorAbs.St.next_upd, Nat.zero_add, Nat.reduceAdd, Nat.reduceLeDiff, Nat.le_refl, Nat.zero_le] <;> omega)) only [↓DN, ↓reduceIte, UP, Int.reduceEq, Int.reduceLT, Int.reduceLE, Nat.reduceEqDiff, Nat.reduceAdd, Nat.reduceMul, Nat.reduceSub, Int.reduceToNat, Nat.reduceLeDiff, PF, isStop, isP, goInt, beq_self_eq_true, decide_true, decide_false, Int.toNat_natCast, Int.natCast_zero, nn_eq, nn_ne, e2, e7, e9, e11, e12, e13, e14, e15, e16]; rfl) (fun ht => ?_) (fun ht => ?_) <;> (first | (simp only [Bool.true_eq_false, Bool.false_eq_true] at ht; done) | ((try simp only [Bool.not_eq_true', Bool.not_eq_false'] at ht); (try simp only [ht]); (try simp only [HTN] at ht); (try (exfalso; omega))))))
    have k46 : Kept S4 S6 (some (S.next + 1)) := ⟨Nat.le_trans kS5.1 hM6.next, fun i hi hne => (hM6.keep i (Nat.lt_of_lt_of_le hi kS5.1) (fun e => hne (by rw [e])) (fun e => by have := hty i e; omega) (fun e => by have := hly i e; omega)).trans (kS5.2 i hi hne)⟩
    have hRx6 := hRx4.kept k46 (fun i hi => by cases hi; exact ⟨by omega, fun z => hxl _ z rfl, fun z => hll _ z rfl⟩)
    have hOv6 := hOv.kept k46 (.inr (fun z => hol _ z.symm rfl))
    have hOa6 := own_mv hOa hapa hM6
    have h66 : S6.get 6 = some ⟨tab64, 0, false, 0⟩ := (k46.2 6 (by omega) (by simp; omega)).trans h64
    have c1 := conv_any hOa6
    have c2 := conv_any hOv6
    have hs : ((⟨outL.toArray⟩ : ByteArray).toList == (⟨outL.toArray⟩ : ByteArray).toList) = true := beq_self_eq_true _
    have hbb : (decide (R.state = 8) == decide (R.state = 8)) = true := beq_self_eq_true _
    have n66 : 6 < S6.next := by have := k46.1; omega
    repeat' (first
    | (with_reducible refine W_pushC fun K hK => ?_)
    | (with_reducible refine W_blockI ?_)
    | (with_reducible refine W_scopeI ?_)
    | (with_reducible refine W_labelI ?_)
    | (with_reducible refine W_skipI ?_)
    | (with_reducible refine W_retI ?_)
    | (with_reducible refine W_exitI ?_)
    | (with_reducible refine then_normalI ?_)
    | (with_reducible refine then_retI ?_)
    | (with_reducible refine then_exitI ?_)
    | (with_reducible refine inBlock_normalI ?_)
    | (with_reducible refine inBlock_retI ?_)
    | (with_reducible refine inBlock_exitI ?_)
    | (with_reducible refine inBlock_exitN (by decide) ?_)
    | ((with_reducible refine bodyQ_normal0 ?_); (try simp only [EVB, Nat.reduceEqDiff, reduceIte]))
    | ((with_reducible refine bodyQ_normal1 ?_); (try simp only [EVB, Nat.reduceEqDiff, reduceIte]))
    | ((with_reducible refine bodyQ_normal2 ?_); (try simp only [EVB, Nat.reduceEqDiff, reduceIte]))
    | ((with_reducible refine bodyQ_normal3 ?_); (try simp only [EVB, Nat.reduceEqDiff, reduceIte]))
    | ((with_reducible refine bodyQ_normal4 ?_); (try simp only [EVB, Nat.reduceEqDiff, reduceIte]))
    | ((with_reducible refine bodyQ_ret0 ?_); (try simp only [EVB, Nat.reduceEqDiff, reduceIte]))
    | ((with_reducible refine bodyQ_ret1 ?_); (try simp only [EVB, Nat.reduceEqDiff, reduceIte]))
    | ((with_reducible refine bodyQ_ret2 ?_); (try simp only [EVB, Nat.reduceEqDiff, reduceIte]))
    | ((with_reducible refine bodyQ_ret3 ?_); (try simp only [EVB, Nat.reduceEqDiff, reduceIte]))
    | ((with_reducible refine bodyQ_ret4 ?_); (try simp only [EVB, Nat.reduceEqDiff, reduceIte]))
    | ((with_reducible show C _ _ _ _ _ _); first | (refine num_C h.toHI ?_))
    | (with_reducible refine Cont.use (by assumption) ?_)
    | ((with_reducible show W _ _ (.cond _ _ _) _ _ _); refine W_condI (by simp (disch := first | ((with_reducible show isStop _ = false); rfl) | ((with_reducible show isP _ = true); rfl) | ((with_reducible show (isStop _ || isP _) = false); rfl) | assumption | (simp only [gt_some, gb_bool, gb_undef, EVB, Option.bind_some, Nat.reduceEqDiff, reduceIte, beq_self_eq_true, Bool.not_true, Bool.not_false, beq_true, beq_false]; done) | omega | (with_reducible decide) | (simp only [List.length_cons, List.length_nil, List.size_toArray, List.toList_toArray, List.all_cons, List.all_nil, Go.Proofs.YtdfgdpjlbcnkfaaDoorAbs.oneC, Bool.and_self, Go.Proofs.YtdfgdpjlbcnkfaaDoorAbs.St.next_push, Go.Proofs.YtdfgdpjlbcnkfaaDoorAbs.St.next_upd, Nat.zero_add, Nat.reduceAdd, Nat.reduceLeDiff, Nat.le_refl, Nat.zero_le] <;> omega)) only [↓DN, ↓reduceIte, UP, Int.reduceEq, Int.reduceLT, Int.reduceLE, Nat.reduceEqDiff, Nat.reduceAdd, Nat.reduceMul, Nat.reduceSub, Int.reduceToNat, Nat.reduceLeDiff, PF, isStop, isP, goInt, beq_self_eq_true, decide_true, decide_false, Int.toNat_natCast, Int.natCast_zero, nn_eq, nn_ne, e2, e7, e9, e11, e12, e13, e14, e15, e16, c1, c2, hle, beql4, hs, hbb]; rfl) (fun ht => ?_) (fun ht => ?_) <;> (first | (simp only [Bool.true_eq_false, Bool.false_eq_true] at ht; done) | ((try simp only [Bool.not_eq_true', Bool.not_eq_false'] at ht); (try simp only [ht]); (try simp only [HTN] at ht); (try (exfalso; omega)))))
    | ((with_reducible refine W_regionI ?_); simp (disch := first | ((with_reducible show isStop _ = false); rfl) | ((with_reducible show isP _ = true); rfl) | ((with_reducible show (isStop _ || isP _) = false); rfl) | assumption | (simp only [gt_some, gb_bool, gb_undef, EVB, Option.bind_some, Nat.reduceEqDiff, reduceIte, beq_self_eq_true, Bool.not_true, Bool.not_false, beq_true, beq_false]; done) | omega | (with_reducible decide) | (simp only [List.length_cons, List.length_nil, List.size_toArray, List.toList_toArray, List.all_cons, List.all_nil, Go.Proofs.YtdfgdpjlbcnkfaaDoorAbs.oneC, Bool.and_self, Go.Proofs.YtdfgdpjlbcnkfaaDoorAbs.St.next_push, Go.Proofs.YtdfgdpjlbcnkfaaDoorAbs.St.next_upd, Nat.zero_add, Nat.reduceAdd, Nat.reduceLeDiff, Nat.le_refl, Nat.zero_le] <;> omega)) only [↓DN, ↓reduceIte, UP, Int.reduceEq, Int.reduceLT, Int.reduceLE, Nat.reduceEqDiff, Nat.reduceAdd, Nat.reduceMul, Nat.reduceSub, Int.reduceToNat, Nat.reduceLeDiff, PF, isStop, isP, goInt, beq_self_eq_true, decide_true, decide_false, Int.toNat_natCast, Int.natCast_zero, nn_eq, nn_ne, e2, e7, e9, e11, e12, e13, e14, e15, e16, c1, c2, hle, beql4, hs, hbb])
    | ((first | (with_reducible show O _ _ _ _ _ _ _ _) | (with_reducible show OK _ _ _ _ _ _ _ _ _) | (with_reducible show OKF _ _ _ _ _ _ _ _ _ _) | (with_reducible show OKT _ _ _ _ _ _ _ _ _ _ _ _) | (with_reducible show _ ∧ _)); simp (disch := first | ((with_reducible show isStop _ = false); rfl) | ((with_reducible show isP _ = true); rfl) | ((with_reducible show (isStop _ || isP _) = false); rfl) | assumption | (simp only [gt_some, gb_bool, gb_undef, EVB, Option.bind_some, Nat.reduceEqDiff, reduceIte, beq_self_eq_true, Bool.not_true, Bool.not_false, beq_true, beq_false]; done) | omega | (with_reducible decide) | (simp only [List.length_cons, List.length_nil, List.size_toArray, List.toList_toArray, List.all_cons, List.all_nil, Go.Proofs.YtdfgdpjlbcnkfaaDoorAbs.oneC, Bool.and_self, Go.Proofs.YtdfgdpjlbcnkfaaDoorAbs.St.next_push, Go.Proofs.YtdfgdpjlbcnkfaaDoorAbs.St.next_upd, Nat.zero_add, Nat.reduceAdd, Nat.reduceLeDiff, Nat.le_refl, Nat.zero_le] <;> omega)) only [↓DN, ↓reduceIte, UP, Int.reduceEq, Int.reduceLT, Int.reduceLE, Nat.reduceEqDiff, Nat.reduceAdd, Nat.reduceMul, Nat.reduceSub, Int.reduceToNat, Nat.reduceLeDiff, PF, isStop, isP, goInt, beq_self_eq_true, decide_true, decide_false, Int.toNat_natCast, Int.natCast_zero, nn_eq, nn_ne, e2, e7, e9, e11, e12, e13, e14, e15, e16, c1, c2, hle, beql4, hs, hbb])
    | ((with_reducible show O _ _ _ (⟨_, _, _, _, _, some _⟩ :: _) _ _ _ _); refine O_split (by simp (disch := first | ((with_reducible show isStop _ = false); rfl) | ((with_reducible show isP _ = true); rfl) | ((with_reducible show (isStop _ || isP _) = false); rfl) | assumption | (simp only [gt_some, gb_bool, gb_undef, EVB, Option.bind_some, Nat.reduceEqDiff, reduceIte, beq_self_eq_true, Bool.not_true, Bool.not_false, beq_true, beq_false]; done) | omega | (with_reducible decide) | (simp only [List.length_cons, List.length_nil, List.size_toArray, List.toList_toArray, List.all_cons, List.all_nil, Go.Proofs.YtdfgdpjlbcnkfaaDoorAbs.oneC, Bool.and_self, Go.Proofs.YtdfgdpjlbcnkfaaDoorAbs.St.next_push, Go.Proofs.YtdfgdpjlbcnkfaaDoorAbs.St.next_upd, Nat.zero_add, Nat.reduceAdd, Nat.reduceLeDiff, Nat.le_refl, Nat.zero_le] <;> omega)) only [↓DN, ↓reduceIte, UP, Int.reduceEq, Int.reduceLT, Int.reduceLE, Nat.reduceEqDiff, Nat.reduceAdd, Nat.reduceMul, Nat.reduceSub, Int.reduceToNat, Nat.reduceLeDiff, PF, isStop, isP, goInt, beq_self_eq_true, decide_true, decide_false, Int.toNat_natCast, Int.natCast_zero, nn_eq, nn_ne, e2, e7, e9, e11, e12, e13, e14, e15, e16, c1, c2, hle, beql4, hs, hbb]; rfl) (fun ht => ?_) (fun ht => ?_) <;> (first | (simp only [Bool.true_eq_false, Bool.false_eq_true] at ht; done) | ((try simp only [Bool.not_eq_true', Bool.not_eq_false'] at ht); (try simp only [ht]); (try simp only [HTN] at ht); (try (exfalso; omega)))))
    | ((exfalso; rw [hbb] at ht; cases ht)))
    refine Trailers_C h.toHI hRx6 (by omega) fun t1 S7 hT1 hK7 hN7 => ?_
    have hR7 := hR6.kept hK7 (by simp)
    have n67 : 6 < S7.next := Nat.lt_of_lt_of_le n66 hK7.1
    repeat' (first
    | (with_reducible refine W_pushC fun K hK => ?_)
    | (with_reducible refine W_blockI ?_)
    | (with_reducible refine W_scopeI ?_)
    | (with_reducible refine W_labelI ?_)
    | (with_reducible refine W_skipI ?_)
    | (with_reducible refine W_retI ?_)
    | (with_reducible refine W_exitI ?_)
    | (with_reducible refine then_normalI ?_)
    | (with_reducible refine then_retI ?_)
    | (with_reducible refine then_exitI ?_)
    | (with_reducible refine inBlock_normalI ?_)
    | (with_reducible refine inBlock_retI ?_)
    | (with_reducible refine inBlock_exitI ?_)
    | (with_reducible refine inBlock_exitN (by decide) ?_)
    | ((with_reducible refine bodyQ_normal0 ?_); (try simp only [EVB, Nat.reduceEqDiff, reduceIte]))
    | ((with_reducible refine bodyQ_normal1 ?_); (try simp only [EVB, Nat.reduceEqDiff, reduceIte]))
    | ((with_reducible refine bodyQ_normal2 ?_); (try simp only [EVB, Nat.reduceEqDiff, reduceIte]))
    | ((with_reducible refine bodyQ_normal3 ?_); (try simp only [EVB, Nat.reduceEqDiff, reduceIte]))
    | ((with_reducible refine bodyQ_normal4 ?_); (try simp only [EVB, Nat.reduceEqDiff, reduceIte]))
    | ((with_reducible refine bodyQ_ret0 ?_); (try simp only [EVB, Nat.reduceEqDiff, reduceIte]))
    | ((with_reducible refine bodyQ_ret1 ?_); (try simp only [EVB, Nat.reduceEqDiff, reduceIte]))
    | ((with_reducible refine bodyQ_ret2 ?_); (try simp only [EVB, Nat.reduceEqDiff, reduceIte]))
    | ((with_reducible refine bodyQ_ret3 ?_); (try simp only [EVB, Nat.reduceEqDiff, reduceIte]))
    | ((with_reducible refine bodyQ_ret4 ?_); (try simp only [EVB, Nat.reduceEqDiff, reduceIte]))
    | ((with_reducible show C _ _ _ _ _ _); first | ((refine Trailers_C h.toHI hR7 (by omega) (fun t2 S8 hT2 hK8 hN8 => ?_))) | ((refine fields_C h.toHI (hT1.kept hK8 (.inl rfl)) hT2 (by omega) ?_)) | ((refine h.works _ _ ((hK8.2 6 n67 (by simp)).trans ((hK7.2 6 n66 (by simp)).trans h66)) ?_)))
    | (with_reducible refine Cont.use (by assumption) ?_)
    | ((with_reducible show W _ _ (.cond _ _ _) _ _ _); refine W_condI (by simp (disch := first | ((with_reducible show isStop _ = false); rfl) | ((with_reducible show isP _ = true); rfl) | ((with_reducible show (isStop _ || isP _) = false); rfl) | assumption | (simp only [gt_some, gb_bool, gb_undef, EVB, Option.bind_some, Nat.reduceEqDiff, reduceIte, beq_self_eq_true, Bool.not_true, Bool.not_false, beq_true, beq_false]; done) | omega | (with_reducible decide) | (simp only [List.length_cons, List.length_nil, List.size_toArray, List.toList_toArray, List.all_cons, List.all_nil, Go.Proofs.YtdfgdpjlbcnkfaaDoorAbs.oneC, Bool.and_self, Go.Proofs.YtdfgdpjlbcnkfaaDoorAbs.St.next_push, Go.Proofs.YtdfgdpjlbcnkfaaDoorAbs.St.next_upd, Nat.zero_add, Nat.reduceAdd, Nat.reduceLeDiff, Nat.le_refl, Nat.zero_le] <;> omega)) only [↓DN, ↓reduceIte, UP, Int.reduceEq, Int.reduceLT, Int.reduceLE, Nat.reduceEqDiff, Nat.reduceAdd, Nat.reduceMul, Nat.reduceSub, Int.reduceToNat, Nat.reduceLeDiff, PF, isStop, isP, goInt, beq_self_eq_true, decide_true, decide_false, Int.toNat_natCast, Int.natCast_zero, nn_eq, nn_ne, e2, e7, e9, e11, e12, e13, e14, e15, e16, c1, c2, hle, beql4, hs, hbb]; rfl) (fun ht => ?_) (fun ht => ?_) <;> (first | (simp only [Bool.true_eq_false, Bool.false_eq_true] at ht; done) | ((try simp only [Bool.not_eq_true', Bool.not_eq_false'] at ht); (try simp only [ht]); (try simp only [HTN] at ht); (try (exfalso; omega)))))
    | ((with_reducible refine W_regionI ?_); simp (disch := first | ((with_reducible show isStop _ = false); rfl) | ((with_reducible show isP _ = true); rfl) | ((with_reducible show (isStop _ || isP _) = false); rfl) | assumption | (simp only [gt_some, gb_bool, gb_undef, EVB, Option.bind_some, Nat.reduceEqDiff, reduceIte, beq_self_eq_true, Bool.not_true, Bool.not_false, beq_true, beq_false]; done) | omega | (with_reducible decide) | (simp only [List.length_cons, List.length_nil, List.size_toArray, List.toList_toArray, List.all_cons, List.all_nil, Go.Proofs.YtdfgdpjlbcnkfaaDoorAbs.oneC, Bool.and_self, Go.Proofs.YtdfgdpjlbcnkfaaDoorAbs.St.next_push, Go.Proofs.YtdfgdpjlbcnkfaaDoorAbs.St.next_upd, Nat.zero_add, Nat.reduceAdd, Nat.reduceLeDiff, Nat.le_refl, Nat.zero_le] <;> omega)) only [↓DN, ↓reduceIte, UP, Int.reduceEq, Int.reduceLT, Int.reduceLE, Nat.reduceEqDiff, Nat.reduceAdd, Nat.reduceMul, Nat.reduceSub, Int.reduceToNat, Nat.reduceLeDiff, PF, isStop, isP, goInt, beq_self_eq_true, decide_true, decide_false, Int.toNat_natCast, Int.natCast_zero, nn_eq, nn_ne, e2, e7, e9, e11, e12, e13, e14, e15, e16, c1, c2, hle, beql4, hs, hbb])
    | ((first | (with_reducible show O _ _ _ _ _ _ _ _) | (with_reducible show OK _ _ _ _ _ _ _ _ _) | (with_reducible show OKF _ _ _ _ _ _ _ _ _ _) | (with_reducible show OKT _ _ _ _ _ _ _ _ _ _ _ _) | (with_reducible show _ ∧ _)); simp (disch := first | ((with_reducible show isStop _ = false); rfl) | ((with_reducible show isP _ = true); rfl) | ((with_reducible show (isStop _ || isP _) = false); rfl) | assumption | (simp only [gt_some, gb_bool, gb_undef, EVB, Option.bind_some, Nat.reduceEqDiff, reduceIte, beq_self_eq_true, Bool.not_true, Bool.not_false, beq_true, beq_false]; done) | omega | (with_reducible decide) | (simp only [List.length_cons, List.length_nil, List.size_toArray, List.toList_toArray, List.all_cons, List.all_nil, Go.Proofs.YtdfgdpjlbcnkfaaDoorAbs.oneC, Bool.and_self, Go.Proofs.YtdfgdpjlbcnkfaaDoorAbs.St.next_push, Go.Proofs.YtdfgdpjlbcnkfaaDoorAbs.St.next_upd, Nat.zero_add, Nat.reduceAdd, Nat.reduceLeDiff, Nat.le_refl, Nat.zero_le] <;> omega)) only [↓DN, ↓reduceIte, UP, Int.reduceEq, Int.reduceLT, Int.reduceLE, Nat.reduceEqDiff, Nat.reduceAdd, Nat.reduceMul, Nat.reduceSub, Int.reduceToNat, Nat.reduceLeDiff, PF, isStop, isP, goInt, beq_self_eq_true, decide_true, decide_false, Int.toNat_natCast, Int.natCast_zero, nn_eq, nn_ne, e2, e7, e9, e11, e12, e13, e14, e15, e16, c1, c2, hle, beql4, hs, hbb])
    | ((with_reducible show O _ _ _ (⟨_, _, _, _, _, some _⟩ :: _) _ _ _ _); refine O_split (by simp (disch := first | ((with_reducible show isStop _ = false); rfl) | ((with_reducible show isP _ = true); rfl) | ((with_reducible show (isStop _ || isP _) = false); rfl) | assumption | (simp only [gt_some, gb_bool, gb_undef, EVB, Option.bind_some, Nat.reduceEqDiff, reduceIte, beq_self_eq_true, Bool.not_true, Bool.not_false, beq_true, beq_false]; done) | omega | (with_reducible decide) | (simp only [List.length_cons, List.length_nil, List.size_toArray, List.toList_toArray, List.all_cons, List.all_nil, Go.Proofs.YtdfgdpjlbcnkfaaDoorAbs.oneC, Bool.and_self, Go.Proofs.YtdfgdpjlbcnkfaaDoorAbs.St.next_push, Go.Proofs.YtdfgdpjlbcnkfaaDoorAbs.St.next_upd, Nat.zero_add, Nat.reduceAdd, Nat.reduceLeDiff, Nat.le_refl, Nat.zero_le] <;> omega)) only [↓DN, ↓reduceIte, UP, Int.reduceEq, Int.reduceLT, Int.reduceLE, Nat.reduceEqDiff, Nat.reduceAdd, Nat.reduceMul, Nat.reduceSub, Int.reduceToNat, Nat.reduceLeDiff, PF, isStop, isP, goInt, beq_self_eq_true, decide_true, decide_false, Int.toNat_natCast, Int.natCast_zero, nn_eq, nn_ne, e2, e7, e9, e11, e12, e13, e14, e15, e16, c1, c2, hle, beql4, hs, hbb]; rfl) (fun ht => ?_) (fun ht => ?_) <;> (first | (simp only [Bool.true_eq_false, Bool.false_eq_true] at ht; done) | ((try simp only [Bool.not_eq_true', Bool.not_eq_false'] at ht); (try simp only [ht]); (try simp only [HTN] at ht); (try (exfalso; omega)))))
    | (exact hQ _))
  -- LOOP
  clear hK
  refine W_loop (fun n e S1 => ∃ (k i : Nat) (ry : PRd) (all : List UInt8) (ty ly av : Value) (my : Nat), e.get 0 = .slice va xs.length vcap ∧ e.get 1 = vc ∧ e.get 2 = .int .i64 most ∧ e.get 7 = .pointer (some ⟨S.next, 0, some 11⟩) ∧ e.get 9 = .pointer (some ⟨S.next + 1, 0, some 11⟩) ∧ e.get 11 = .int .i64 (feedF r0 xs).1 ∧ e.get 12 = .slice oa (feedF r0 xs).2.1.length oc ∧
      e.get 13 = .bool (decide ((feedF r0 xs).2.2.state = 8)) ∧ e.get 14 = errW (feedF r0 xs).2.2.err ∧ e.get 15 = av ∧ e.get 16 = .int .i64 k ∧ e.get 17 = .int .i64 i ∧ k ≤ xs.length ∧ i ≤ k ∧ n = xs.length - k ∧ Kept S4 S1 (some (S.next + 1)) ∧ Rd S1 (S.next + 1) ry ty ly my ∧ RInv ry ∧ (∀ i, blkOf ty = some i → S4.next ≤ i) ∧ (∀ i, blkOf ly = some i → S4.next ≤ i) ∧
      Own 5 1 S1 av all.length (u8v all) ∧ (∀ i, blkOf av = some i → S4.next ≤ i) ∧ Apart av (S.next + 1) ty ly ∧ all.length ≤ k ∧ feedF r0 xs = (k + (feedF ry (xs.drop k)).1, all ++ (feedF ry (xs.drop k)).2.1, (feedF ry (xs.drop k)).2.2)) xs.length
    ⟨0, 0, r0, [], .slice none 0 0, .slice none 0 0, .slice none 0 0, 0, by simp only [EVB, Nat.reduceEqDiff, reduceIte], by simp only [EVB, Nat.reduceEqDiff, reduceIte], by simp only [EVB, Nat.reduceEqDiff, reduceIte], by simp only [EVB, Nat.reduceEqDiff, reduceIte], by simp only [EVB, Nat.reduceEqDiff, reduceIte], by simp only [EVB, Nat.reduceEqDiff, reduceIte], by simp only [EVB, Nat.reduceEqDiff, reduceIte], by simp only [EVB, Nat.reduceEqDiff, reduceIte], by simp only [EVB, Nat.reduceEqDiff, reduceIte], by simp only [EVB, Nat.reduceEqDiff, reduceIte], by simp only [EVB, Nat.reduceEqDiff, reduceIte]; rfl, by simp only [EVB, Nat.reduceEqDiff, reduceIte]; rfl, Nat.zero_le _, Nat.zero_le _, by simp, Kept.refl _ _, hRy4, hiy4, by simp [blkOf], by simp [blkOf], Own.nil _ _ _, by simp [blkOf], fun i hi => by simp [blkOf] at hi, by simp, by simp⟩ ?_
  rintro n e S1 ⟨k, i, ry, all, ty, ly, av, my, e0, e1, e2, e7, e9, e11, e12, e13, e14, e15, e16, e17, hk, hik, hn, k41, hRy1, hiy1, hty, hly, hOa, hav, hapa, hal, hF⟩
  have hx4 := sl_kept hx k4 (by simp)
  have hx1 := sl_kept hx4 k41 (fun z hz hb => by cases hz; have := hvn _ hb; omega)
  have wk : IntKind.i64.wrap ((xs.length : Int) - (k : Int)) = ((xs.length - k : Nat) : Int) := by rw [Go.Proofs.YtdfgdpjlbcnkfaaDoorAbs.wp64 (by omega) (by omega)]; omega
  by_cases hkl : k < xs.length
  case neg =>
    have hd1 : decide ((k : Int) < (xs.length : Int)) = false := decide_eq_false (by omega)
    have hz := feed_stop ry (xs.drop k) (.inl (List.drop_eq_nil_of_le (by omega)))
    rw [hz] at hF
    have f1 : (feedF r0 xs).1 = k := by rw [hF]; rfl
    have f2 : (feedF r0 xs).2.1 = all := by rw [hF]; simp
    have f3 : (feedF r0 xs).2.2 = ry := by rw [hF]
    rw [← f2] at hOa
    rw [← f3] at hRy1
    repeat' (first
    | (with_reducible refine W_pushC fun K hK => ?_)
    | (with_reducible refine W_blockI ?_)
    | (with_reducible refine W_scopeI ?_)
    | (with_reducible refine W_labelI ?_)
    | (with_reducible refine W_skipI ?_)
    | (with_reducible refine W_retI ?_)
    | (with_reducible refine W_exitI ?_)
    | (with_reducible refine then_normalI ?_)
    | (with_reducible refine then_retI ?_)
    | (with_reducible refine then_exitI ?_)
    | (with_reducible refine inBlock_normalI ?_)
    | (with_reducible refine inBlock_retI ?_)
    | (with_reducible refine inBlock_exitI ?_)
    | (with_reducible refine inBlock_exitN (by decide) ?_)
    | ((with_reducible refine bodyQ_normal0 ?_); (try simp only [EVB, Nat.reduceEqDiff, reduceIte]))
    | ((with_reducible refine bodyQ_normal1 ?_); (try simp only [EVB, Nat.reduceEqDiff, reduceIte]))
    | ((with_reducible refine bodyQ_normal2 ?_); (try simp only [EVB, Nat.reduceEqDiff, reduceIte]))
    | ((with_reducible refine bodyQ_normal3 ?_); (try simp only [EVB, Nat.reduceEqDiff, reduceIte]))
    | ((with_reducible refine bodyQ_normal4 ?_); (try simp only [EVB, Nat.reduceEqDiff, reduceIte]))
    | ((with_reducible refine bodyQ_ret0 ?_); (try simp only [EVB, Nat.reduceEqDiff, reduceIte]))
    | ((with_reducible refine bodyQ_ret1 ?_); (try simp only [EVB, Nat.reduceEqDiff, reduceIte]))
    | ((with_reducible refine bodyQ_ret2 ?_); (try simp only [EVB, Nat.reduceEqDiff, reduceIte]))
    | ((with_reducible refine bodyQ_ret3 ?_); (try simp only [EVB, Nat.reduceEqDiff, reduceIte]))
    | ((with_reducible refine bodyQ_ret4 ?_); (try simp only [EVB, Nat.reduceEqDiff, reduceIte]))
    | (with_reducible refine Cont.use (by assumption) ?_)
    | ((with_reducible show W _ _ (.cond _ _ _) _ _ _); refine W_condI (by simp (disch := first | ((with_reducible show isStop _ = false); rfl) | ((with_reducible show isP _ = true); rfl) | ((with_reducible show (isStop _ || isP _) = false); rfl) | assumption | (simp only [gt_some, gb_bool, gb_undef, EVB, Option.bind_some, Nat.reduceEqDiff, reduceIte, beq_self_eq_true, Bool.not_true, Bool.not_false, beq_true, beq_false]; done) | omega | (with_reducible decide) | (simp only [List.length_cons, List.length_nil, List.size_toArray, List.toList_toArray, List.all_cons, List.all_nil, Go.Proofs.YtdfgdpjlbcnkfaaDoorAbs.oneC, Bool.and_self, Go.Proofs.YtdfgdpjlbcnkfaaDoorAbs.St.next_push, Go.Proofs.YtdfgdpjlbcnkfaaDoorAbs.St.next_upd, Nat.zero_add, Nat.reduceAdd, Nat.reduceLeDiff, Nat.le_refl, Nat.zero_le] <;> omega)) only [↓DN, ↓reduceIte, UP, Int.reduceEq, Int.reduceLT, Int.reduceLE, Nat.reduceEqDiff, Nat.reduceAdd, Nat.reduceMul, Nat.reduceSub, Int.reduceToNat, Nat.reduceLeDiff, PF, isStop, isP, goInt, beq_self_eq_true, decide_true, decide_false, Int.toNat_natCast, Int.natCast_zero, nn_eq, nn_ne, e0, e1, e2, e7, e9, e11, e12, e13, e14, e15, e16, e17, hd1]; rfl) (fun ht => ?_) (fun ht => ?_) <;> (first | (simp only [Bool.true_eq_false, Bool.false_eq_true] at ht; done) | ((try simp only [Bool.not_eq_true', Bool.not_eq_false'] at ht); (try simp only [ht]); (try simp only [HTN] at ht); (try (exfalso; omega)))))
    | ((with_reducible refine W_regionI ?_); simp (disch := first | ((with_reducible show isStop _ = false); rfl) | ((with_reducible show isP _ = true); rfl) | ((with_reducible show (isStop _ || isP _) = false); rfl) | assumption | (simp only [gt_some, gb_bool, gb_undef, EVB, Option.bind_some, Nat.reduceEqDiff, reduceIte, beq_self_eq_true, Bool.not_true, Bool.not_false, beq_true, beq_false]; done) | omega | (with_reducible decide) | (simp only [List.length_cons, List.length_nil, List.size_toArray, List.toList_toArray, List.all_cons, List.all_nil, Go.Proofs.YtdfgdpjlbcnkfaaDoorAbs.oneC, Bool.and_self, Go.Proofs.YtdfgdpjlbcnkfaaDoorAbs.St.next_push, Go.Proofs.YtdfgdpjlbcnkfaaDoorAbs.St.next_upd, Nat.zero_add, Nat.reduceAdd, Nat.reduceLeDiff, Nat.le_refl, Nat.zero_le] <;> omega)) only [↓DN, ↓reduceIte, UP, Int.reduceEq, Int.reduceLT, Int.reduceLE, Nat.reduceEqDiff, Nat.reduceAdd, Nat.reduceMul, Nat.reduceSub, Int.reduceToNat, Nat.reduceLeDiff, PF, isStop, isP, goInt, beq_self_eq_true, decide_true, decide_false, Int.toNat_natCast, Int.natCast_zero, nn_eq, nn_ne, e0, e1, e2, e7, e9, e11, e12, e13, e14, e15, e16, e17, hd1])
    | ((first | (with_reducible show O _ _ _ _ _ _ _ _) | (with_reducible show OK _ _ _ _ _ _ _ _ _) | (with_reducible show OKF _ _ _ _ _ _ _ _ _ _) | (with_reducible show OKT _ _ _ _ _ _ _ _ _ _ _ _) | (with_reducible show _ ∧ _)); simp (disch := first | ((with_reducible show isStop _ = false); rfl) | ((with_reducible show isP _ = true); rfl) | ((with_reducible show (isStop _ || isP _) = false); rfl) | assumption | (simp only [gt_some, gb_bool, gb_undef, EVB, Option.bind_some, Nat.reduceEqDiff, reduceIte, beq_self_eq_true, Bool.not_true, Bool.not_false, beq_true, beq_false]; done) | omega | (with_reducible decide) | (simp only [List.length_cons, List.length_nil, List.size_toArray, List.toList_toArray, List.all_cons, List.all_nil, Go.Proofs.YtdfgdpjlbcnkfaaDoorAbs.oneC, Bool.and_self, Go.Proofs.YtdfgdpjlbcnkfaaDoorAbs.St.next_push, Go.Proofs.YtdfgdpjlbcnkfaaDoorAbs.St.next_upd, Nat.zero_add, Nat.reduceAdd, Nat.reduceLeDiff, Nat.le_refl, Nat.zero_le] <;> omega)) only [↓DN, ↓reduceIte, UP, Int.reduceEq, Int.reduceLT, Int.reduceLE, Nat.reduceEqDiff, Nat.reduceAdd, Nat.reduceMul, Nat.reduceSub, Int.reduceToNat, Nat.reduceLeDiff, PF, isStop, isP, goInt, beq_self_eq_true, decide_true, decide_false, Int.toNat_natCast, Int.natCast_zero, nn_eq, nn_ne, e0, e1, e2, e7, e9, e11, e12, e13, e14, e15, e16, e17, hd1])
    | ((with_reducible show O _ _ _ (⟨_, _, _, _, _, some _⟩ :: _) _ _ _ _); refine O_split (by simp (disch := first | ((with_reducible show isStop _ = false); rfl) | ((with_reducible show isP _ = true); rfl) | ((with_reducible show (isStop _ || isP _) = false); rfl) | assumption | (simp only [gt_some, gb_bool, gb_undef, EVB, Option.bind_some, Nat.reduceEqDiff, reduceIte, beq_self_eq_true, Bool.not_true, Bool.not_false, beq_true, beq_false]; done) | omega | (with_reducible decide) | (simp only [List.length_cons, List.length_nil, List.size_toArray, List.toList_toArray, List.all_cons, List.all_nil, Go.Proofs.YtdfgdpjlbcnkfaaDoorAbs.oneC, Bool.and_self, Go.Proofs.YtdfgdpjlbcnkfaaDoorAbs.St.next_push, Go.Proofs.YtdfgdpjlbcnkfaaDoorAbs.St.next_upd, Nat.zero_add, Nat.reduceAdd, Nat.reduceLeDiff, Nat.le_refl, Nat.zero_le] <;> omega)) only [↓DN, ↓reduceIte, UP, Int.reduceEq, Int.reduceLT, Int.reduceLE, Nat.reduceEqDiff, Nat.reduceAdd, Nat.reduceMul, Nat.reduceSub, Int.reduceToNat, Nat.reduceLeDiff, PF, isStop, isP, goInt, beq_self_eq_true, decide_true, decide_false, Int.toNat_natCast, Int.natCast_zero, nn_eq, nn_ne, e0, e1, e2, e7, e9, e11, e12, e13, e14, e15, e16, e17, hd1]; rfl) (fun ht => ?_) (fun ht => ?_) <;> (first | (simp only [Bool.true_eq_false, Bool.false_eq_true] at ht; done) | ((try simp only [Bool.not_eq_true', Bool.not_eq_false'] at ht); (try simp only [ht]); (try simp only [HTN] at ht); (try (exfalso; omega)))))
    | ((refine fin _ _ ry ty ly av my (by simp only [EVB, Nat.reduceEqDiff, reduceIte, e2]) (by simp only [EVB, Nat.reduceEqDiff, reduceIte, e7]) (by simp only [EVB, Nat.reduceEqDiff, reduceIte, e9]) (by simp only [EVB, Nat.reduceEqDiff, reduceIte, e11]) (by simp only [EVB, Nat.reduceEqDiff, reduceIte, e12]) (by simp only [EVB, Nat.reduceEqDiff, reduceIte, e13]) (by simp only [EVB, Nat.reduceEqDiff, reduceIte, e14]) (by simp only [EVB, Nat.reduceEqDiff, reduceIte, e15]) (by simp only [EVB, Nat.reduceEqDiff, reduceIte, e16]; rw [f1]) k41 hRy1 hty hly hOa hapa)))
  have hd1 : decide ((k : Int) < (xs.length : Int)) = true := decide_eq_true (by omega)
  have hd2 : decide ((i : Int) < 20100) = true := decide_eq_true (by omega)
  obtain ⟨vb, vo, vL, vcs, vel, vown, vm, rfl, rfl, hvc, hvo, hvt, hvn1⟩ := hvv (fun q => by rw [q] at hkl; simp at hkl)
  obtain ⟨ca, cc, rfl, hcv⟩ := hc
  by_cases hic : i < cs.length
  · have hd3 : decide ((i : Int) < (cs.length : Int)) = true := decide_eq_true (by omega)
    obtain ⟨cb, co, cL, ccs, cel, cm, rfl, hcg, hcc, hcb⟩ := hcv (fun q => by rw [q] at hic; simp at hic)
    obtain ⟨x, hxc⟩ : ∃ x, cs[i]? = some x := ⟨cs[i], by simp [hic]⟩
    have hcell : cellAt (S1.get cb) (co + i) cL = some (.int .i64 x) := by
      rw [k41.2 cb (by omega) (by simp; omega), k4.2 cb hcb (by simp), hcg, cellAt_their]
      exact hcc i x hxc
    have t1 : -39 ≤ x.tmod 40 ∧ x.tmod 40 ≤ 39 := by have := Int.tmod_lt_of_pos x (show (0 : Int) < 40 by decide); have := Int.lt_tmod_of_pos x (show (0 : Int) < 40 by decide); omega
    have t2 : 0 ≤ (x.tmod 40 + 40).tmod 40 ∧ (x.tmod 40 + 40).tmod 40 ≤ 39 := by have := Int.tmod_lt_of_pos (x.tmod 40 + 40) (show (0 : Int) < 40 by decide); have := Int.tmod_nonneg 40 (show 0 ≤ x.tmod 40 + 40 by omega); omega
    have wq1 : IntKind.i64.wrap (x.tmod 40 + 40) = x.tmod 40 + 40 := Go.Proofs.YtdfgdpjlbcnkfaaDoorAbs.wp64 (by omega) (by omega)
    have wq2 : IntKind.i64.wrap ((x.tmod 40 + 40).tmod 40 + 1) = (x.tmod 40 + 40).tmod 40 + 1 := Go.Proofs.YtdfgdpjlbcnkfaaDoorAbs.wp64 (by omega) (by omega)
    obtain ⟨q, hq⟩ : ∃ q, q = (x.tmod 40 + 40).tmod 40 + 1 := ⟨_, rfl⟩
    have hq1 : 1 ≤ q ∧ q ≤ 40 := by omega
    obtain ⟨j, hj⟩ : ∃ j : Nat, (if ((xs.length - k : Nat) : Int) < q then ((xs.length - k : Nat) : Int) else q) = (j : Int) := by
      split
      · exact ⟨_, rfl⟩
      · exact ⟨q.toNat, by omega⟩
    have hj1 : 0 < j ∧ j ≤ xs.length - k := by split at hj <;> omega
    have w3 : IntKind.i64.wrap (j : Int) = (j : Int) := Go.Proofs.YtdfgdpjlbcnkfaaDoorAbs.wp64 (by omega) (by omega)
    have w4 : IntKind.i64.wrap ((k : Int) + (j : Int)) = ((k + j : Nat) : Int) := by rw [Go.Proofs.YtdfgdpjlbcnkfaaDoorAbs.wp64 (by omega) (by omega)]; omega
    have hkj : k + j - k = j := by omega
    rw [hq] at hj
    have hsub := sl_sub (k := k) (j := j) hx1 (by omega)
    have hpl : ((xs.drop k).take j).length = j := by simp; omega
    repeat' (first
    | (with_reducible refine W_pushC fun K hK => ?_)
    | (with_reducible refine W_blockI ?_)
    | (with_reducible refine W_scopeI ?_)
    | (with_reducible refine W_labelI ?_)
    | (with_reducible refine W_skipI ?_)
    | (with_reducible refine W_retI ?_)
    | (with_reducible refine W_exitI ?_)
    | (with_reducible refine then_normalI ?_)
    | (with_reducible refine then_retI ?_)
    | (with_reducible refine then_exitI ?_)
    | (with_reducible refine inBlock_normalI ?_)
    | (with_reducible refine inBlock_retI ?_)
    | (with_reducible refine inBlock_exitI ?_)
    | (with_reducible refine inBlock_exitN (by decide) ?_)
    | ((with_reducible refine bodyQ_normal0 ?_); (try simp only [EVB, Nat.reduceEqDiff, reduceIte]))
    | ((with_reducible refine bodyQ_normal1 ?_); (try simp only [EVB, Nat.reduceEqDiff, reduceIte]))
    | ((with_reducible refine bodyQ_normal2 ?_); (try simp only [EVB, Nat.reduceEqDiff, reduceIte]))
    | ((with_reducible refine bodyQ_normal3 ?_); (try simp only [EVB, Nat.reduceEqDiff, reduceIte]))
    | ((with_reducible refine bodyQ_normal4 ?_); (try simp only [EVB, Nat.reduceEqDiff, reduceIte]))
    | ((with_reducible refine bodyQ_ret0 ?_); (try simp only [EVB, Nat.reduceEqDiff, reduceIte]))
    | ((with_reducible refine bodyQ_ret1 ?_); (try simp only [EVB, Nat.reduceEqDiff, reduceIte]))
    | ((with_reducible refine bodyQ_ret2 ?_); (try simp only [EVB, Nat.reduceEqDiff, reduceIte]))
    | ((with_reducible refine bodyQ_ret3 ?_); (try simp only [EVB, Nat.reduceEqDiff, reduceIte]))
    | ((with_reducible refine bodyQ_ret4 ?_); (try simp only [EVB, Nat.reduceEqDiff, reduceIte]))
    | ((with_reducible show C _ _ _ _ _ _); first | ((refine twin_C h.toHI hsub (by omega) (fun v2 S6 hO2 hK2 hB2 => ?_))))
    | (with_reducible refine Cont.use (by assumption) ?_)
    | ((with_reducible show W _ _ (.cond _ _ _) _ _ _); refine W_condI (by simp (disch := first | ((with_reducible show isStop _ = false); rfl) | ((with_reducible show isP _ = true); rfl) | ((with_reducible show (isStop _ || isP _) = false); rfl) | assumption | (simp only [gt_some, gb_bool, gb_undef, EVB, Option.bind_some, Nat.reduceEqDiff, reduceIte, beq_self_eq_true, Bool.not_true, Bool.not_false, beq_true, beq_false]; done) | omega | (with_reducible decide) | (simp only [List.length_cons, List.length_nil, List.size_toArray, List.toList_toArray, List.all_cons, List.all_nil, Go.Proofs.YtdfgdpjlbcnkfaaDoorAbs.oneC, Bool.and_self, Go.Proofs.YtdfgdpjlbcnkfaaDoorAbs.St.next_push, Go.Proofs.YtdfgdpjlbcnkfaaDoorAbs.St.next_upd, Nat.zero_add, Nat.reduceAdd, Nat.reduceLeDiff, Nat.le_refl, Nat.zero_le] <;> omega)) only [↓DN, ↓reduceIte, UP, Int.reduceEq, Int.reduceLT, Int.reduceLE, Nat.reduceEqDiff, Nat.reduceAdd, Nat.reduceMul, Nat.reduceSub, Int.reduceToNat, Nat.reduceLeDiff, PF, isStop, isP, goInt, beq_self_eq_true, decide_true, decide_false, Int.toNat_natCast, Int.natCast_zero, nn_eq, nn_ne, e0, e1, e2, e7, e9, e11, e12, e13, e14, e15, e16, e17, hd1, hd2, hd3, hj, w3, w4, wk, hkj, hcell, wq1, wq2]; rfl) (fun ht => ?_) (fun ht => ?_) <;> (first | (simp only [Bool.true_eq_false, Bool.false_eq_true] at ht; done) | ((try simp only [Bool.not_eq_true', Bool.not_eq_false'] at ht); (try simp only [ht]); (try simp only [HTN] at ht); (try (exfalso; omega)))))
    | ((with_reducible refine W_regionI ?_); simp (disch := first | ((with_reducible show isStop _ = false); rfl) | ((with_reducible show isP _ = true); rfl) | ((with_reducible show (isStop _ || isP _) = false); rfl) | assumption | (simp only [gt_some, gb_bool, gb_undef, EVB, Option.bind_some, Nat.reduceEqDiff, reduceIte, beq_self_eq_true, Bool.not_true, Bool.not_false, beq_true, beq_false]; done) | omega | (with_reducible decide) | (simp only [List.length_cons, List.length_nil, List.size_toArray, List.toList_toArray, List.all_cons, List.all_nil, Go.Proofs.YtdfgdpjlbcnkfaaDoorAbs.oneC, Bool.and_self, Go.Proofs.YtdfgdpjlbcnkfaaDoorAbs.St.next_push, Go.Proofs.YtdfgdpjlbcnkfaaDoorAbs.St.next_upd, Nat.zero_add, Nat.reduceAdd, Nat.reduceLeDiff, Nat.le_refl, Nat.zero_le] <;> omega)) only [↓DN, ↓reduceIte, UP, Int.reduceEq, Int.reduceLT, Int.reduceLE, Nat.reduceEqDiff, Nat.reduceAdd, Nat.reduceMul, Nat.reduceSub, Int.reduceToNat, Nat.reduceLeDiff, PF, isStop, isP, goInt, beq_self_eq_true, decide_true, decide_false, Int.toNat_natCast, Int.natCast_zero, nn_eq, nn_ne, e0, e1, e2, e7, e9, e11, e12, e13, e14, e15, e16, e17, hd1, hd2, hd3, hj, w3, w4, wk, hkj, hcell, wq1, wq2])
    | ((first | (with_reducible show O _ _ _ _ _ _ _ _) | (with_reducible show OK _ _ _ _ _ _ _ _ _) | (with_reducible show OKF _ _ _ _ _ _ _ _ _ _) | (with_reducible show OKT _ _ _ _ _ _ _ _ _ _ _ _) | (with_reducible show _ ∧ _)); simp (disch := first | ((with_reducible show isStop _ = false); rfl) | ((with_reducible show isP _ = true); rfl) | ((with_reducible show (isStop _ || isP _) = false); rfl) | assumption | (simp only [gt_some, gb_bool, gb_undef, EVB, Option.bind_some, Nat.reduceEqDiff, reduceIte, beq_self_eq_true, Bool.not_true, Bool.not_false, beq_true, beq_false]; done) | omega | (with_reducible decide) | (simp only [List.length_cons, List.length_nil, List.size_toArray, List.toList_toArray, List.all_cons, List.all_nil, Go.Proofs.YtdfgdpjlbcnkfaaDoorAbs.oneC, Bool.and_self, Go.Proofs.YtdfgdpjlbcnkfaaDoorAbs.St.next_push, Go.Proofs.YtdfgdpjlbcnkfaaDoorAbs.St.next_upd, Nat.zero_add, Nat.reduceAdd, Nat.reduceLeDiff, Nat.le_refl, Nat.zero_le] <;> omega)) only [↓DN, ↓reduceIte, UP, Int.reduceEq, Int.reduceLT, Int.reduceLE, Nat.reduceEqDiff, Nat.reduceAdd, Nat.reduceMul, Nat.reduceSub, Int.reduceToNat, Nat.reduceLeDiff, PF, isStop, isP, goInt, beq_self_eq_true, decide_true, decide_false, Int.toNat_natCast, Int.natCast_zero, nn_eq, nn_ne, e0, e1, e2, e7, e9, e11, e12, e13, e14, e15, e16, e17, hd1, hd2, hd3, hj, w3, w4, wk, hkj, hcell, wq1, wq2])
    | ((with_reducible show O _ _ _ (⟨_, _, _, _, _, some _⟩ :: _) _ _ _ _); refine O_split (by simp (disch := first | ((with_reducible show isStop _ = false); rfl) | ((with_reducible show isP _ = true); rfl) | ((with_reducible show (isStop _ || isP _) = false); rfl) | assumption | (simp only [gt_some, gb_bool, gb_undef, EVB, Option.bind_some, Nat.reduceEqDiff, reduceIte, beq_self_eq_true, Bool.not_true, Bool.not_false, beq_true, beq_false]; done) | omega | (with_reducible decide) | (simp only [List.length_cons, List.length_nil, List.size_toArray, List.toList_toArray, List.all_cons, List.all_nil, Go.Proofs.YtdfgdpjlbcnkfaaDoorAbs.oneC, Bool.and_self, Go.Proofs.YtdfgdpjlbcnkfaaDoorAbs.St.next_push, Go.Proofs.YtdfgdpjlbcnkfaaDoorAbs.St.next_upd, Nat.zero_add, Nat.reduceAdd, Nat.reduceLeDiff, Nat.le_refl, Nat.zero_le] <;> omega)) only [↓DN, ↓reduceIte, UP, Int.reduceEq, Int.reduceLT, Int.reduceLE, Nat.reduceEqDiff, Nat.reduceAdd, Nat.reduceMul, Nat.reduceSub, Int.reduceToNat, Nat.reduceLeDiff, PF, isStop, isP, goInt, beq_self_eq_true, decide_true, decide_false, Int.toNat_natCast, Int.natCast_zero, nn_eq, nn_ne, e0, e1, e2, e7, e9, e11, e12, e13, e14, e15, e16, e17, hd1, hd2, hd3, hj, w3, w4, wk, hkj, hcell, wq1, wq2]; rfl) (fun ht => ?_) (fun ht => ?_) <;> (first | (simp only [Bool.true_eq_false, Bool.false_eq_true] at ht; done) | ((try simp only [Bool.not_eq_true', Bool.not_eq_false'] at ht); (try simp only [ht]); (try simp only [HTN] at ht); (try (exfalso; omega))))))
    have hRy6 := hRy1.kept hK2 (by simp)
    have hapv2 : Apart v2 (S.next + 1) ty ly := fun z hz => ⟨by have := hB2 z hz; have := hRy1.hn; omega, fun e => by have := own_lt hRy1.text e; have := hB2 z hz; omega, fun e => by have := own_lt hRy1.trl e; have := hB2 z hz; omega⟩
    have hOa6 := hOa.kept hK2 (.inl rfl)
    repeat' (first
    | (with_reducible refine W_pushC fun K hK => ?_)
    | (with_reducible refine W_blockI ?_)
    | (with_reducible refine W_scopeI ?_)
    | (with_reducible refine W_labelI ?_)
    | (with_reducible refine W_skipI ?_)
    | (with_reducible refine W_retI ?_)
    | (with_reducible refine W_exitI ?_)
    | (with_reducible refine then_normalI ?_)
    | (with_reducible refine then_retI ?_)
    | (with_reducible refine then_exitI ?_)
    | (with_reducible refine inBlock_normalI ?_)
    | (with_reducible refine inBlock_retI ?_)
    | (with_reducible refine inBlock_exitI ?_)
    | (with_reducible refine inBlock_exitN (by decide) ?_)
    | ((with_reducible refine bodyQ_normal0 ?_); (try simp only [EVB, Nat.reduceEqDiff, reduceIte]))
    | ((with_reducible refine bodyQ_normal1 ?_); (try simp only [EVB, Nat.reduceEqDiff, reduceIte]))
    | ((with_reducible refine bodyQ_normal2 ?_); (try simp only [EVB, Nat.reduceEqDiff, reduceIte]))
    | ((with_reducible refine bodyQ_normal3 ?_); (try simp only [EVB, Nat.reduceEqDiff, reduceIte]))
    | ((with_reducible refine bodyQ_normal4 ?_); (try simp only [EVB, Nat.reduceEqDiff, reduceIte]))
    | ((with_reducible refine bodyQ_ret0 ?_); (try simp only [EVB, Nat.reduceEqDiff, reduceIte]))
    | ((with_reducible refine bodyQ_ret1 ?_); (try simp only [EVB, Nat.reduceEqDiff, reduceIte]))
    | ((with_reducible refine bodyQ_ret2 ?_); (try simp only [EVB, Nat.reduceEqDiff, reduceIte]))
    | ((with_reducible refine bodyQ_ret3 ?_); (try simp only [EVB, Nat.reduceEqDiff, reduceIte]))
    | ((with_reducible refine bodyQ_ret4 ?_); (try simp only [EVB, Nat.reduceEqDiff, reduceIte]))
    | ((with_reducible show C _ _ _ _ _ _); first | ((refine Feed_C h.toHI hRy6 hiy1 (sl_own hO2) hapv2 (fun z hz => own_lt hO2 hz) (by omega) (fun S7 ty7 ly7 my7 pv hRy7 hiy7 hM7 hOp hnp happ => ?_))))
    | (with_reducible refine Cont.use (by assumption) ?_)
    | ((with_reducible show W _ _ (.cond _ _ _) _ _ _); refine W_condI (by simp (disch := first | ((with_reducible show isStop _ = false); rfl) | ((with_reducible show isP _ = true); rfl) | ((with_reducible show (isStop _ || isP _) = false); rfl) | assumption | (simp only [gt_some, gb_bool, gb_undef, EVB, Option.bind_some, Nat.reduceEqDiff, reduceIte, beq_self_eq_true, Bool.not_true, Bool.not_false, beq_true, beq_false]; done) | omega | (with_reducible decide) | (simp only [List.length_cons, List.length_nil, List.size_toArray, List.toList_toArray, List.all_cons, List.all_nil, Go.Proofs.YtdfgdpjlbcnkfaaDoorAbs.oneC, Bool.and_self, Go.Proofs.YtdfgdpjlbcnkfaaDoorAbs.St.next_push, Go.Proofs.YtdfgdpjlbcnkfaaDoorAbs.St.next_upd, Nat.zero_add, Nat.reduceAdd, Nat.reduceLeDiff, Nat.le_refl, Nat.zero_le] <;> omega)) only [↓DN, ↓reduceIte, UP, Int.reduceEq, Int.reduceLT, Int.reduceLE, Nat.reduceEqDiff, Nat.reduceAdd, Nat.reduceMul, Nat.reduceSub, Int.reduceToNat, Nat.reduceLeDiff, PF, isStop, isP, goInt, beq_self_eq_true, decide_true, decide_false, Int.toNat_natCast, Int.natCast_zero, nn_eq, nn_ne, e0, e1, e2, e7, e9, e11, e12, e13, e14, e15, e16, e17, hd1, hd2, hd3, hj, w3, w4, wk, hkj, hcell, wq1, wq2]; rfl) (fun ht => ?_) (fun ht => ?_) <;> (first | (simp only [Bool.true_eq_false, Bool.false_eq_true] at ht; done) | ((try simp only [Bool.not_eq_true', Bool.not_eq_false'] at ht); (try simp only [ht]); (try simp only [HTN] at ht); (try (exfalso; omega)))))
    | ((with_reducible refine W_regionI ?_); simp (disch := first | ((with_reducible show isStop _ = false); rfl) | ((with_reducible show isP _ = true); rfl) | ((with_reducible show (isStop _ || isP _) = false); rfl) | assumption | (simp only [gt_some, gb_bool, gb_undef, EVB, Option.bind_some, Nat.reduceEqDiff, reduceIte, beq_self_eq_true, Bool.not_true, Bool.not_false, beq_true, beq_false]; done) | omega | (with_reducible decide) | (simp only [List.length_cons, List.length_nil, List.size_toArray, List.toList_toArray, List.all_cons, List.all_nil, Go.Proofs.YtdfgdpjlbcnkfaaDoorAbs.oneC, Bool.and_self, Go.Proofs.YtdfgdpjlbcnkfaaDoorAbs.St.next_push, Go.Proofs.YtdfgdpjlbcnkfaaDoorAbs.St.next_upd, Nat.zero_add, Nat.reduceAdd, Nat.reduceLeDiff, Nat.le_refl, Nat.zero_le] <;> omega)) only [↓DN, ↓reduceIte, UP, Int.reduceEq, Int.reduceLT, Int.reduceLE, Nat.reduceEqDiff, Nat.reduceAdd, Nat.reduceMul, Nat.reduceSub, Int.reduceToNat, Nat.reduceLeDiff, PF, isStop, isP, goInt, beq_self_eq_true, decide_true, decide_false, Int.toNat_natCast, Int.natCast_zero, nn_eq, nn_ne, e0, e1, e2, e7, e9, e11, e12, e13, e14, e15, e16, e17, hd1, hd2, hd3, hj, w3, w4, wk, hkj, hcell, wq1, wq2])
    | ((first | (with_reducible show O _ _ _ _ _ _ _ _) | (with_reducible show OK _ _ _ _ _ _ _ _ _) | (with_reducible show OKF _ _ _ _ _ _ _ _ _ _) | (with_reducible show OKT _ _ _ _ _ _ _ _ _ _ _ _) | (with_reducible show _ ∧ _)); simp (disch := first | ((with_reducible show isStop _ = false); rfl) | ((with_reducible show isP _ = true); rfl) | ((with_reducible show (isStop _ || isP _) = false); rfl) | assumption | (simp only [gt_some, gb_bool, gb_undef, EVB, Option.bind_some, Nat.reduceEqDiff, reduceIte, beq_self_eq_true, Bool.not_true, Bool.not_false, beq_true, beq_false]; done) | omega | (with_reducible decide) | (simp only [List.length_cons, List.length_nil, List.size_toArray, List.toList_toArray, List.all_cons, List.all_nil, Go.Proofs.YtdfgdpjlbcnkfaaDoorAbs.oneC, Bool.and_self, Go.Proofs.YtdfgdpjlbcnkfaaDoorAbs.St.next_push, Go.Proofs.YtdfgdpjlbcnkfaaDoorAbs.St.next_upd, Nat.zero_add, Nat.reduceAdd, Nat.reduceLeDiff, Nat.le_refl, Nat.zero_le] <;> omega)) only [↓DN, ↓reduceIte, UP, Int.reduceEq, Int.reduceLT, Int.reduceLE, Nat.reduceEqDiff, Nat.reduceAdd, Nat.reduceMul, Nat.reduceSub, Int.reduceToNat, Nat.reduceLeDiff, PF, isStop, isP, goInt, beq_self_eq_true, decide_true, decide_false, Int.toNat_natCast, Int.natCast_zero, nn_eq, nn_ne, e0, e1, e2, e7, e9, e11, e12, e13, e14, e15, e16, e17, hd1, hd2, hd3, hj, w3, w4, wk, hkj, hcell, wq1, wq2])
    | ((with_reducible show O _ _ _ (⟨_, _, _, _, _, some _⟩ :: _) _ _ _ _); refine O_split (by simp (disch := first | ((with_reducible show isStop _ = false); rfl) | ((with_reducible show isP _ = true); rfl) | ((with_reducible show (isStop _ || isP _) = false); rfl) | assumption | (simp only [gt_some, gb_bool, gb_undef, EVB, Option.bind_some, Nat.reduceEqDiff, reduceIte, beq_self_eq_true, Bool.not_true, Bool.not_false, beq_true, beq_false]; done) | omega | (with_reducible decide) | (simp only [List.length_cons, List.length_nil, List.size_toArray, List.toList_toArray, List.all_cons, List.all_nil, Go.Proofs.YtdfgdpjlbcnkfaaDoorAbs.oneC, Bool.and_self, Go.Proofs.YtdfgdpjlbcnkfaaDoorAbs.St.next_push, Go.Proofs.YtdfgdpjlbcnkfaaDoorAbs.St.next_upd, Nat.zero_add, Nat.reduceAdd, Nat.reduceLeDiff, Nat.le_refl, Nat.zero_le] <;> omega)) only [↓DN, ↓reduceIte, UP, Int.reduceEq, Int.reduceLT, Int.reduceLE, Nat.reduceEqDiff, Nat.reduceAdd, Nat.reduceMul, Nat.reduceSub, Int.reduceToNat, Nat.reduceLeDiff, PF, isStop, isP, goInt, beq_self_eq_true, decide_true, decide_false, Int.toNat_natCast, Int.natCast_zero, nn_eq, nn_ne, e0, e1, e2, e7, e9, e11, e12, e13, e14, e15, e16, e17, hd1, hd2, hd3, hj, w3, w4, wk, hkj, hcell, wq1, wq2]; rfl) (fun ht => ?_) (fun ht => ?_) <;> (first | (simp only [Bool.true_eq_false, Bool.false_eq_true] at ht; done) | ((try simp only [Bool.not_eq_true', Bool.not_eq_false'] at ht); (try simp only [ht]); (try simp only [HTN] at ht); (try (exfalso; omega))))))
    have hOa7 := own_mv hOa6 hapa hM7
    have hapa7 := hapa.mv hM7 (fun z hz => own_lt hOa6 hz)
    have k67 : S1.next ≤ S7.next := Nat.le_trans hK2.1 hM7.next
    have hpn : (feedF ry ((xs.drop k).take j)).2.1.length ≤ 1048576 := by have := feed_out ((xs.drop k).take j) ry; omega
    refine O_append (P := Tryd.prog) (elem := 5) (size := 1) (bytes := 1) (n := all.length) (m := (feedF ry ((xs.drop k).take j)).2.1.length) (xs := u8v all) (ys := u8v (feedF ry ((xs.drop k).take j)).2.1) u22 sz5 by5 ze5 ⟨by decide, by decide, rfl⟩ (by simp only [EVB, Nat.reduceEqDiff, reduceIte, e15]; exact hOa7) (by simp only [EVB, Nat.reduceEqDiff, reduceIte]; exact asrc_own hOp u22) ⟨by simp [u8v], u8v_one _⟩ (by omega) fun av2 S8 hO8 hKp hB => ?_
    simp only [EVB, Nat.reduceEqDiff, reduceIte, e15] at hKp hB
    have hRy8 := hRy7.kept hKp (fun z hz => hapa7 z hz)
    have hO9 : Own 5 1 S8 av2 (all ++ (feedF ry ((xs.drop k).take j)).2.1).length (u8v (all ++ (feedF ry ((xs.drop k).take j)).2.1)) := by
      rw [List.length_append]; simpa [u8v] using hO8
    have hav2 : ∀ z, blkOf av2 = some z → S4.next ≤ z := by
      intro z hz
      rcases hB with q' | ⟨z', q1, q2⟩
      · exact hav z (q' ▸ hz)
      · rw [q2] at hz; cases hz; have := k41.1; omega
    have hap8 : Apart av2 (S.next + 1) ty7 ly7 := by
      intro z hz
      rcases hB with q' | ⟨z', q1, q2⟩
      · exact hapa7 z (q' ▸ hz)
      · rw [q2] at hz; cases hz
        exact ⟨by have := hRy7.hn; omega, fun e => by have := own_lt hRy7.text e; omega, fun e => by have := own_lt hRy7.trl e; omega⟩
    have hty8 : ∀ z, blkOf ty7 = some z → S4.next ≤ z := fun z hz => (hM7.t z hz).elim (fun q' => hty z q') (fun q' => by have := k41.1; have := hK2.1; omega)
    have hly8 : ∀ z, blkOf ly7 = some z → S4.next ≤ z := fun z hz => (hM7.l z hz).elim (fun q' => hly z q') (fun q' => by have := k41.1; have := hK2.1; omega)
    have k48 : Kept S4 S8 (some (S.next + 1)) := by
      refine ⟨by have := k41.1; have := hKp.1; omega, fun z hz hne => ?_⟩
      have z1 : z < S1.next := Nat.lt_of_lt_of_le hz k41.1
      rw [hKp.2 z (by omega) (fun e => by have := hav z e; omega), hM7.keep z (by have := hK2.1; omega) (fun e => hne (by rw [e])) (fun e => by have := hty z e; omega) (fun e => by have := hly z e; omega), hK2.2 z z1 (by simp)]
      exact k41.2 z hz hne
    have hap := feed_append ((xs.drop k).take j) ((xs.drop k).drop j) ry
    rw [List.take_append_drop, List.drop_drop] at hap
    have hfl := feed_le ((xs.drop k).take j) ry
    have hfo := feed_out ((xs.drop k).take j) ry
    have w5 : IntKind.i64.wrap ((k : Int) + ((feedF ry ((xs.drop k).take j)).1 : Int)) = ((k + (feedF ry ((xs.drop k).take j)).1 : Nat) : Int) := by rw [Go.Proofs.YtdfgdpjlbcnkfaaDoorAbs.wp64 (by omega) (by omega)]; omega
    have w6 : IntKind.i64.wrap ((i : Int) + 1) = ((i + 1 : Nat) : Int) := by rw [Go.Proofs.YtdfgdpjlbcnkfaaDoorAbs.wp64 (by omega) (by omega)]; omega
    by_cases hmj : (feedF ry ((xs.drop k).take j)).1 < j
    · have hd4 : decide (((feedF ry ((xs.drop k).take j)).1 : Int) < (j : Int)) = true := decide_eq_true (by omega)
      rw [if_pos (by rw [hpl]; exact hmj)] at hap
      rw [hap] at hF
      have f1 : (feedF r0 xs).1 = k + (feedF ry ((xs.drop k).take j)).1 := by rw [hF]
      have f2 : (feedF r0 xs).2.1 = all ++ (feedF ry ((xs.drop k).take j)).2.1 := by rw [hF]
      have f3 : (feedF r0 xs).2.2 = (feedF ry ((xs.drop k).take j)).2.2 := by rw [hF]
      rw [← f2] at hO9
      rw [← f3] at hRy8
      repeat' (first
    | (with_reducible refine W_pushC fun K hK => ?_)
    | (with_reducible refine W_blockI ?_)
    | (with_reducible refine W_scopeI ?_)
    | (with_reducible refine W_labelI ?_)
    | (with_reducible refine W_skipI ?_)
    | (with_reducible refine W_retI ?_)
    | (with_reducible refine W_exitI ?_)
    | (with_reducible refine then_normalI ?_)
    | (with_reducible refine then_retI ?_)
    | (with_reducible refine then_exitI ?_)
    | (with_reducible refine inBlock_normalI ?_)
    | (with_reducible refine inBlock_retI ?_)
    | (with_reducible refine inBlock_exitI ?_)
    | (with_reducible refine inBlock_exitN (by decide) ?_)
    | ((with_reducible refine bodyQ_normal0 ?_); (try simp only [EVB, Nat.reduceEqDiff, reduceIte]))
    | ((with_reducible refine bodyQ_normal1 ?_); (try simp only [EVB, Nat.reduceEqDiff, reduceIte]))
    | ((with_reducible refine bodyQ_normal2 ?_); (try simp only [EVB, Nat.reduceEqDiff, reduceIte]))
    | ((with_reducible refine bodyQ_normal3 ?_); (try simp only [EVB, Nat.reduceEqDiff, reduceIte]))
    | ((with_reducible refine bodyQ_normal4 ?_); (try simp only [EVB, Nat.reduceEqDiff, reduceIte]))
    | ((with_reducible refine bodyQ_ret0 ?_); (try simp only [EVB, Nat.reduceEqDiff, reduceIte]))
    | ((with_reducible refine bodyQ_ret1 ?_); (try simp only [EVB, Nat.reduceEqDiff, reduceIte]))
    | ((with_reducible refine bodyQ_ret2 ?_); (try simp only [EVB, Nat.reduceEqDiff, reduceIte]))
    | ((with_reducible refine bodyQ_ret3 ?_); (try simp only [EVB, Nat.reduceEqDiff, reduceIte]))
    | ((with_reducible refine bodyQ_ret4 ?_); (try simp only [EVB, Nat.reduceEqDiff, reduceIte]))
    | (with_reducible refine Cont.use (by assumption) ?_)
    | ((with_reducible show W _ _ (.cond _ _ _) _ _ _); refine W_condI (by simp (disch := first | ((with_reducible show isStop _ = false); rfl) | ((with_reducible show isP _ = true); rfl) | ((with_reducible show (isStop _ || isP _) = false); rfl) | assumption | (simp only [gt_some, gb_bool, gb_undef, EVB, Option.bind_some, Nat.reduceEqDiff, reduceIte, beq_self_eq_true, Bool.not_true, Bool.not_false, beq_true, beq_false]; done) | omega | (with_reducible decide) | (simp only [List.length_cons, List.length_nil, List.size_toArray, List.toList_toArray, List.all_cons, List.all_nil, Go.Proofs.YtdfgdpjlbcnkfaaDoorAbs.oneC, Bool.and_self, Go.Proofs.YtdfgdpjlbcnkfaaDoorAbs.St.next_push, Go.Proofs.YtdfgdpjlbcnkfaaDoorAbs.St.next_upd, Nat.zero_add, Nat.reduceAdd, Nat.reduceLeDiff, Nat.le_refl, Nat.zero_le] <;> omega)) only [↓DN, ↓reduceIte, UP, Int.reduceEq, Int.reduceLT, Int.reduceLE, Nat.reduceEqDiff, Nat.reduceAdd, Nat.reduceMul, Nat.reduceSub, Int.reduceToNat, Nat.reduceLeDiff, PF, isStop, isP, goInt, beq_self_eq_true, decide_true, decide_false, Int.toNat_natCast, Int.natCast_zero, nn_eq, nn_ne, e0, e1, e2, e7, e9, e11, e12, e13, e14, e15, e16, e17, hd1, hd2, hd3, hj, w3, w4, wk, hkj, hcell, wq1, wq2, w5, w6, hd4]; rfl) (fun ht => ?_) (fun ht => ?_) <;> (first | (simp only [Bool.true_eq_false, Bool.false_eq_true] at ht; done) | ((try simp only [Bool.not_eq_true', Bool.not_eq_false'] at ht); (try simp only [ht]); (try simp only [HTN] at ht); (try (exfalso; omega)))))
    | ((with_reducible refine W_regionI ?_); simp (disch := first | ((with_reducible show isStop _ = false); rfl) | ((with_reducible show isP _ = true); rfl) | ((with_reducible show (isStop _ || isP _) = false); rfl) | assumption | (simp only [gt_some, gb_bool, gb_undef, EVB, Option.bind_some, Nat.reduceEqDiff, reduceIte, beq_self_eq_true, Bool.not_true, Bool.not_false, beq_true, beq_false]; done) | omega | (with_reducible decide) | (simp only [List.length_cons, List.length_nil, List.size_toArray, List.toList_toArray, List.all_cons, List.all_nil, Go.Proofs.YtdfgdpjlbcnkfaaDoorAbs.oneC, Bool.and_self, Go.Proofs.YtdfgdpjlbcnkfaaDoorAbs.St.next_push, Go.Proofs.YtdfgdpjlbcnkfaaDoorAbs.St.next_upd, Nat.zero_add, Nat.reduceAdd, Nat.reduceLeDiff, Nat.le_refl, Nat.zero_le] <;> omega)) only [↓DN, ↓reduceIte, UP, Int.reduceEq, Int.reduceLT, Int.reduceLE, Nat.reduceEqDiff, Nat.reduceAdd, Nat.reduceMul, Nat.reduceSub, Int.reduceToNat, Nat.reduceLeDiff, PF, isStop, isP, goInt, beq_self_eq_true, decide_true, decide_false, Int.toNat_natCast, Int.natCast_zero, nn_eq, nn_ne, e0, e1, e2, e7, e9, e11, e12, e13, e14, e15, e16, e17, hd1, hd2, hd3, hj, w3, w4, wk, hkj, hcell, wq1, wq2, w5, w6, hd4])
    | ((first | (with_reducible show O _ _ _ _ _ _ _ _) | (with_reducible show OK _ _ _ _ _ _ _ _ _) | (with_reducible show OKF _ _ _ _ _ _ _ _ _ _) | (with_reducible show OKT _ _ _ _ _ _ _ _ _ _ _ _) | (with_reducible show _ ∧ _)); simp (disch := first | ((with_reducible show isStop _ = false); rfl) | ((with_reducible show isP _ = true); rfl) | ((with_reducible show (isStop _ || isP _) = false); rfl) | assumption | (simp only [gt_some, gb_bool, gb_undef, EVB, Option.bind_some, Nat.reduceEqDiff, reduceIte, beq_self_eq_true, Bool.not_true, Bool.not_false, beq_true, beq_false]; done) | omega | (with_reducible decide) | (simp only [List.length_cons, List.length_nil, List.size_toArray, List.toList_toArray, List.all_cons, List.all_nil, Go.Proofs.YtdfgdpjlbcnkfaaDoorAbs.oneC, Bool.and_self, Go.Proofs.YtdfgdpjlbcnkfaaDoorAbs.St.next_push, Go.Proofs.YtdfgdpjlbcnkfaaDoorAbs.St.next_upd, Nat.zero_add, Nat.reduceAdd, Nat.reduceLeDiff, Nat.le_refl, Nat.zero_le] <;> omega)) only [↓DN, ↓reduceIte, UP, Int.reduceEq, Int.reduceLT, Int.reduceLE, Nat.reduceEqDiff, Nat.reduceAdd, Nat.reduceMul, Nat.reduceSub, Int.reduceToNat, Nat.reduceLeDiff, PF, isStop, isP, goInt, beq_self_eq_true, decide_true, decide_false, Int.toNat_natCast, Int.natCast_zero, nn_eq, nn_ne, e0, e1, e2, e7, e9, e11, e12, e13, e14, e15, e16, e17, hd1, hd2, hd3, hj, w3, w4, wk, hkj, hcell, wq1, wq2, w5, w6, hd4])
    | ((with_reducible show O _ _ _ (⟨_, _, _, _, _, some _⟩ :: _) _ _ _ _); refine O_split (by simp (disch := first | ((with_reducible show isStop _ = false); rfl) | ((with_reducible show isP _ = true); rfl) | ((with_reducible show (isStop _ || isP _) = false); rfl) | assumption | (simp only [gt_some, gb_bool, gb_undef, EVB, Option.bind_some, Nat.reduceEqDiff, reduceIte, beq_self_eq_true, Bool.not_true, Bool.not_false, beq_true, beq_false]; done) | omega | (with_reducible decide) | (simp only [List.length_cons, List.length_nil, List.size_toArray, List.toList_toArray, List.all_cons, List.all_nil, Go.Proofs.YtdfgdpjlbcnkfaaDoorAbs.oneC, Bool.and_self, Go.Proofs.YtdfgdpjlbcnkfaaDoorAbs.St.next_push, Go.Proofs.YtdfgdpjlbcnkfaaDoorAbs.St.next_upd, Nat.zero_add, Nat.reduceAdd, Nat.reduceLeDiff, Nat.le_refl, Nat.zero_le] <;> omega)) only [↓DN, ↓reduceIte, UP, Int.reduceEq, Int.reduceLT, Int.reduceLE, Nat.reduceEqDiff, Nat.reduceAdd, Nat.reduceMul, Nat.reduceSub, Int.reduceToNat, Nat.reduceLeDiff, PF, isStop, isP, goInt, beq_self_eq_true, decide_true, decide_false, Int.toNat_natCast, Int.natCast_zero, nn_eq, nn_ne, e0, e1, e2, e7, e9, e11, e12, e13, e14, e15, e16, e17, hd1, hd2, hd3, hj, w3, w4, wk, hkj, hcell, wq1, wq2, w5, w6, hd4]; rfl) (fun ht => ?_) (fun ht => ?_) <;> (first | (simp only [Bool.true_eq_false, Bool.false_eq_true] at ht; done) | ((try simp only [Bool.not_eq_true', Bool.not_eq_false'] at ht); (try simp only [ht]); (try simp only [HTN] at ht); (try (exfalso; omega)))))
    | ((refine fin _ _ ry ty7 ly7 av2 my7 (by simp only [EVB, Nat.reduceEqDiff, reduceIte, e2]) (by simp only [EVB, Nat.reduceEqDiff, reduceIte, e7]) (by simp only [EVB, Nat.reduceEqDiff, reduceIte, e9]) (by simp only [EVB, Nat.reduceEqDiff, reduceIte, e11]) (by simp only [EVB, Nat.reduceEqDiff, reduceIte, e12]) (by simp only [EVB, Nat.reduceEqDiff, reduceIte, e13]) (by simp only [EVB, Nat.reduceEqDiff, reduceIte, e14]) (by simp only [EVB, Nat.reduceEqDiff, reduceIte]) (by simp only [EVB, Nat.reduceEqDiff, reduceIte]; rw [f1]) k48 hRy8 hty8 hly8 hO9 hap8)))
    · have hd4 : decide (((feedF ry ((xs.drop k).take j)).1 : Int) < (j : Int)) = false := decide_eq_false (by omega)
      have hmj' : (feedF ry ((xs.drop k).take j)).1 = j := by omega
      rw [if_neg (by rw [hpl]; exact hmj), hpl] at hap
      rw [hap] at hF
      repeat' (first
    | (with_reducible refine W_pushC fun K hK => ?_)
    | (with_reducible refine W_blockI ?_)
    | (with_reducible refine W_scopeI ?_)
    | (with_reducible refine W_labelI ?_)
    | (with_reducible refine W_skipI ?_)
    | (with_reducible refine W_retI ?_)
    | (with_reducible refine W_exitI ?_)
    | (with_reducible refine then_normalI ?_)
    | (with_reducible refine then_retI ?_)
    | (with_reducible refine then_exitI ?_)
    | (with_reducible refine inBlock_normalI ?_)
    | (with_reducible refine inBlock_retI ?_)
    | (with_reducible refine inBlock_exitI ?_)
    | (with_reducible refine inBlock_exitN (by decide) ?_)
    | ((with_reducible refine bodyQ_normal0 ?_); (try simp only [EVB, Nat.reduceEqDiff, reduceIte]))
    | ((with_reducible refine bodyQ_normal1 ?_); (try simp only [EVB, Nat.reduceEqDiff, reduceIte]))
    | ((with_reducible refine bodyQ_normal2 ?_); (try simp only [EVB, Nat.reduceEqDiff, reduceIte]))
    | ((with_reducible refine bodyQ_normal3 ?_); (try simp only [EVB, Nat.reduceEqDiff, reduceIte]))
    | ((with_reducible refine bodyQ_normal4 ?_); (try simp only [EVB, Nat.reduceEqDiff, reduceIte]))
    | ((with_reducible refine bodyQ_ret0 ?_); (try simp only [EVB, Nat.reduceEqDiff, reduceIte]))
    | ((with_reducible refine bodyQ_ret1 ?_); (try simp only [EVB, Nat.reduceEqDiff, reduceIte]))
    | ((with_reducible refine bodyQ_ret2 ?_); (try simp only [EVB, Nat.reduceEqDiff, reduceIte]))
    | ((with_reducible refine bodyQ_ret3 ?_); (try simp only [EVB, Nat.reduceEqDiff, reduceIte]))
    | ((with_reducible refine bodyQ_ret4 ?_); (try simp only [EVB, Nat.reduceEqDiff, reduceIte]))
    | (with_reducible refine Cont.use (by assumption) ?_)
    | ((with_reducible show W _ _ (.cond _ _ _) _ _ _); refine W_condI (by simp (disch := first | ((with_reducible show isStop _ = false); rfl) | ((with_reducible show isP _ = true); rfl) | ((with_reducible show (isStop _ || isP _) = false); rfl) | assumption | (simp only [gt_some, gb_bool, gb_undef, EVB, Option.bind_some, Nat.reduceEqDiff, reduceIte, beq_self_eq_true, Bool.not_true, Bool.not_false, beq_true, beq_false]; done) | omega | (with_reducible decide) | (simp only [List.length_cons, List.length_nil, List.size_toArray, List.toList_toArray, List.all_cons, List.all_nil, Go.Proofs.YtdfgdpjlbcnkfaaDoorAbs.oneC, Bool.and_self, Go.Proofs.YtdfgdpjlbcnkfaaDoorAbs.St.next_push, Go.Proofs.YtdfgdpjlbcnkfaaDoorAbs.St.next_upd, Nat.zero_add, Nat.reduceAdd, Nat.reduceLeDiff, Nat.le_refl, Nat.zero_le] <;> omega)) only [↓DN, ↓reduceIte, UP, Int.reduceEq, Int.reduceLT, Int.reduceLE, Nat.reduceEqDiff, Nat.reduceAdd, Nat.reduceMul, Nat.reduceSub, Int.reduceToNat, Nat.reduceLeDiff, PF, isStop, isP, goInt, beq_self_eq_true, decide_true, decide_false, Int.toNat_natCast, Int.natCast_zero, nn_eq, nn_ne, e0, e1, e2, e7, e9, e11, e12, e13, e14, e15, e16, e17, hd1, hd2, hd3, hj, w3, w4, wk, hkj, hcell, wq1, wq2, w5, w6, hd4]; rfl) (fun ht => ?_) (fun ht => ?_) <;> (first | (simp only [Bool.true_eq_false, Bool.false_eq_true] at ht; done) | ((try simp only [Bool.not_eq_true', Bool.not_eq_false'] at ht); (try simp only [ht]); (try simp only [HTN] at ht); (try (exfalso; omega)))))
    | ((with_reducible refine W_regionI ?_); simp (disch := first | ((with_reducible show isStop _ = false); rfl) | ((with_reducible show isP _ = true); rfl) | ((with_reducible show (isStop _ || isP _) = false); rfl) | assumption | (simp only [gt_some, gb_bool, gb_undef, EVB, Option.bind_some, Nat.reduceEqDiff, reduceIte, beq_self_eq_true, Bool.not_true, Bool.not_false, beq_true, beq_false]; done) | omega | (with_reducible decide) | (simp only [List.length_cons, List.length_nil, List.size_toArray, List.toList_toArray, List.all_cons, List.all_nil, Go.Proofs.YtdfgdpjlbcnkfaaDoorAbs.oneC, Bool.and_self, Go.Proofs.YtdfgdpjlbcnkfaaDoorAbs.St.next_push, Go.Proofs.YtdfgdpjlbcnkfaaDoorAbs.St.next_upd, Nat.zero_add, Nat.reduceAdd, Nat.reduceLeDiff, Nat.le_refl, Nat.zero_le] <;> omega)) only [↓DN, ↓reduceIte, UP, Int.reduceEq, Int.reduceLT, Int.reduceLE, Nat.reduceEqDiff, Nat.reduceAdd, Nat.reduceMul, Nat.reduceSub, Int.reduceToNat, Nat.reduceLeDiff, PF, isStop, isP, goInt, beq_self_eq_true, decide_true, decide_false, Int.toNat_natCast, Int.natCast_zero, nn_eq, nn_ne, e0, e1, e2, e7, e9, e11, e12, e13, e14, e15, e16, e17, hd1, hd2, hd3, hj, w3, w4, wk, hkj, hcell, wq1, wq2, w5, w6, hd4])
    | ((first | (with_reducible show O _ _ _ _ _ _ _ _) | (with_reducible show OK _ _ _ _ _ _ _ _ _) | (with_reducible show OKF _ _ _ _ _ _ _ _ _ _) | (with_reducible show OKT _ _ _ _ _ _ _ _ _ _ _ _) | (with_reducible show _ ∧ _)); simp (disch := first | ((with_reducible show isStop _ = false); rfl) | ((with_reducible show isP _ = true); rfl) | ((with_reducible show (isStop _ || isP _) = false); rfl) | assumption | (simp only [gt_some, gb_bool, gb_undef, EVB, Option.bind_some, Nat.reduceEqDiff, reduceIte, beq_self_eq_true, Bool.not_true, Bool.not_false, beq_true, beq_false]; done) | omega | (with_reducible decide) | (simp only [List.length_cons, List.length_nil, List.size_toArray, List.toList_toArray, List.all_cons, List.all_nil, Go.Proofs.YtdfgdpjlbcnkfaaDoorAbs.oneC, Bool.and_self, Go.Proofs.YtdfgdpjlbcnkfaaDoorAbs.St.next_push, Go.Proofs.YtdfgdpjlbcnkfaaDoorAbs.St.next_upd, Nat.zero_add, Nat.reduceAdd, Nat.reduceLeDiff, Nat.le_refl, Nat.zero_le] <;> omega)) only [↓DN, ↓reduceIte, UP, Int.reduceEq, Int.reduceLT, Int.reduceLE, Nat.reduceEqDiff, Nat.reduceAdd, Nat.reduceMul, Nat.reduceSub, Int.reduceToNat, Nat.reduceLeDiff, PF, isStop, isP, goInt, beq_self_eq_true, decide_true, decide_false, Int.toNat_natCast, Int.natCast_zero, nn_eq, nn_ne, e0, e1, e2, e7, e9, e11, e12, e13, e14, e15, e16, e17, hd1, hd2, hd3, hj, w3, w4, wk, hkj, hcell, wq1, wq2, w5, w6, hd4])
    | ((with_reducible show O _ _ _ (⟨_, _, _, _, _, some _⟩ :: _) _ _ _ _); refine O_split (by simp (disch := first | ((with_reducible show isStop _ = false); rfl) | ((with_reducible show isP _ = true); rfl) | ((with_reducible show (isStop _ || isP _) = false); rfl) | assumption | (simp only [gt_some, gb_bool, gb_undef, EVB, Option.bind_some, Nat.reduceEqDiff, reduceIte, beq_self_eq_true, Bool.not_true, Bool.not_false, beq_true, beq_false]; done) | omega | (with_reducible decide) | (simp only [List.length_cons, List.length_nil, List.size_toArray, List.toList_toArray, List.all_cons, List.all_nil, Go.Proofs.YtdfgdpjlbcnkfaaDoorAbs.oneC, Bool.and_self, Go.Proofs.YtdfgdpjlbcnkfaaDoorAbs.St.next_push, Go.Proofs.YtdfgdpjlbcnkfaaDoorAbs.St.next_upd, Nat.zero_add, Nat.reduceAdd, Nat.reduceLeDiff, Nat.le_refl, Nat.zero_le] <;> omega)) only [↓DN, ↓reduceIte, UP, Int.reduceEq, Int.reduceLT, Int.reduceLE, Nat.reduceEqDiff, Nat.reduceAdd, Nat.reduceMul, Nat.reduceSub, Int.reduceToNat, Nat.reduceLeDiff, PF, isStop, isP, goInt, beq_self_eq_true, decide_true, decide_false, Int.toNat_natCast, Int.natCast_zero, nn_eq, nn_ne, e0, e1, e2, e7, e9, e11, e12, e13, e14, e15, e16, e17, hd1, hd2, hd3, hj, w3, w4, wk, hkj, hcell, wq1, wq2, w5, w6, hd4]; rfl) (fun ht => ?_) (fun ht => ?_) <;> (first | (simp only [Bool.true_eq_false, Bool.false_eq_true] at ht; done) | ((try simp only [Bool.not_eq_true', Bool.not_eq_false'] at ht); (try simp only [ht]); (try simp only [HTN] at ht); (try (exfalso; omega)))))
    | ((refine ⟨xs.length - (k + j), by omega, k + j, i + 1, (feedF ry ((xs.drop k).take j)).2.2, all ++ (feedF ry ((xs.drop k).take j)).2.1, ty7, ly7, av2, my7, by simp only [EVB, Nat.reduceEqDiff, reduceIte, e0], by simp only [EVB, Nat.reduceEqDiff, reduceIte, e1], by simp only [EVB, Nat.reduceEqDiff, reduceIte, e2], by simp only [EVB, Nat.reduceEqDiff, reduceIte, e7], by simp only [EVB, Nat.reduceEqDiff, reduceIte, e9], by simp only [EVB, Nat.reduceEqDiff, reduceIte, e11], by simp only [EVB, Nat.reduceEqDiff, reduceIte, e12], by simp only [EVB, Nat.reduceEqDiff, reduceIte, e13], by simp only [EVB, Nat.reduceEqDiff, reduceIte, e14], by simp only [EVB, Nat.reduceEqDiff, reduceIte], by simp only [EVB, Nat.reduceEqDiff, reduceIte]; rw [hmj'], by simp only [EVB, Nat.reduceEqDiff, reduceIte], by omega, by omega, rfl, k48, hRy8, hiy7, hty8, hly8, hO9, hav2, hap8, by rw [List.length_append]; omega, by rw [hF]; simp [Nat.add_assoc]⟩)))
  · have hd3 : decide ((i : Int) < (cs.length : Int)) = false := decide_eq_false (by omega)
    obtain ⟨q, hq⟩ : ∃ q : Int, q = 7 := ⟨_, rfl⟩
    have hq1 : 1 ≤ q ∧ q ≤ 40 := by omega
    obtain ⟨j, hj⟩ : ∃ j : Nat, (if ((xs.length - k : Nat) : Int) < q then ((xs.length - k : Nat) : Int) else q) = (j : Int) := by
      split
      · exact ⟨_, rfl⟩
      · exact ⟨q.toNat, by omega⟩
    have hj1 : 0 < j ∧ j ≤ xs.length - k := by split at hj <;> omega
    have w3 : IntKind.i64.wrap (j : Int) = (j : Int) := Go.Proofs.YtdfgdpjlbcnkfaaDoorAbs.wp64 (by omega) (by omega)
    have w4 : IntKind.i64.wrap ((k : Int) + (j : Int)) = ((k + j : Nat) : Int) := by rw [Go.Proofs.YtdfgdpjlbcnkfaaDoorAbs.wp64 (by omega) (by omega)]; omega
    have hkj : k + j - k = j := by omega
    rw [hq] at hj
    have hsub := sl_sub (k := k) (j := j) hx1 (by omega)
    have hpl : ((xs.drop k).take j).length = j := by simp; omega
    repeat' (first
    | (with_reducible refine W_pushC fun K hK => ?_)
    | (with_reducible refine W_blockI ?_)
    | (with_reducible refine W_scopeI ?_)
    | (with_reducible refine W_labelI ?_)
    | (with_reducible refine W_skipI ?_)
    | (with_reducible refine W_retI ?_)
    | (with_reducible refine W_exitI ?_)
    | (with_reducible refine then_normalI ?_)
    | (with_reducible refine then_retI ?_)
    | (with_reducible refine then_exitI ?_)
    | (with_reducible refine inBlock_normalI ?_)
    | (with_reducible refine inBlock_retI ?_)
    | (with_reducible refine inBlock_exitI ?_)
    | (with_reducible refine inBlock_exitN (by decide) ?_)
    | ((with_reducible refine bodyQ_normal0 ?_); (try simp only [EVB, Nat.reduceEqDiff, reduceIte]))
    | ((with_reducible refine bodyQ_normal1 ?_); (try simp only [EVB, Nat.reduceEqDiff, reduceIte]))
    | ((with_reducible refine bodyQ_normal2 ?_); (try simp only [EVB, Nat.reduceEqDiff, reduceIte]))
    | ((with_reducible refine bodyQ_normal3 ?_); (try simp only [EVB, Nat.reduceEqDiff, reduceIte]))
    | ((with_reducible refine bodyQ_normal4 ?_); (try simp only [EVB, Nat.reduceEqDiff, reduceIte]))
    | ((with_reducible refine bodyQ_ret0 ?_); (try simp only [EVB, Nat.reduceEqDiff, reduceIte]))
    | ((with_reducible refine bodyQ_ret1 ?_); (try simp only [EVB, Nat.reduceEqDiff, reduceIte]))
    | ((with_reducible refine bodyQ_ret2 ?_); (try simp only [EVB, Nat.reduceEqDiff, reduceIte]))
    | ((with_reducible refine bodyQ_ret3 ?_); (try simp only [EVB, Nat.reduceEqDiff, reduceIte]))
    | ((with_reducible refine bodyQ_ret4 ?_); (try simp only [EVB, Nat.reduceEqDiff, reduceIte]))
    | ((with_reducible show C _ _ _ _ _ _); first | ((refine twin_C h.toHI hsub (by omega) (fun v2 S6 hO2 hK2 hB2 => ?_))))
    | (with_reducible refine Cont.use (by assumption) ?_)
    | ((with_reducible show W _ _ (.cond _ _ _) _ _ _); refine W_condI (by simp (disch := first | ((with_reducible show isStop _ = false); rfl) | ((with_reducible show isP _ = true); rfl) | ((with_reducible show (isStop _ || isP _) = false); rfl) | assumption | (simp only [gt_some, gb_bool, gb_undef, EVB, Option.bind_some, Nat.reduceEqDiff, reduceIte, beq_self_eq_true, Bool.not_true, Bool.not_false, beq_true, beq_false]; done) | omega | (with_reducible decide) | (simp only [List.length_cons, List.length_nil, List.size_toArray, List.toList_toArray, List.all_cons, List.all_nil, Go.Proofs.YtdfgdpjlbcnkfaaDoorAbs.oneC, Bool.and_self, Go.Proofs.YtdfgdpjlbcnkfaaDoorAbs.St.next_push, Go.Proofs.YtdfgdpjlbcnkfaaDoorAbs.St.next_upd, Nat.zero_add, Nat.reduceAdd, Nat.reduceLeDiff, Nat.le_refl, Nat.zero_le] <;> omega)) only [↓DN, ↓reduceIte, UP, Int.reduceEq, Int.reduceLT, Int.reduceLE, Nat.reduceEqDiff, Nat.reduceAdd, Nat.reduceMul, Nat.reduceSub, Int.reduceToNat, Nat.reduceLeDiff, PF, isStop, isP, goInt, beq_self_eq_true, decide_true, decide_false, Int.toNat_natCast, Int.natCast_zero, nn_eq, nn_ne, e0, e1, e2, e7, e9, e11, e12, e13, e14, e15, e16, e17, hd1, hd2, hd3, hj, w3, w4, wk, hkj, hq]; rfl) (fun ht => ?_) (fun ht => ?_) <;> (first | (simp only [Bool.true_eq_false, Bool.false_eq_true] at ht; done) | ((try simp only [Bool.not_eq_true', Bool.not_eq_false'] at ht); (try simp only [ht]); (try simp only [HTN] at ht); (try (exfalso; omega)))))
    | ((with_reducible refine W_regionI ?_); simp (disch := first | ((with_reducible show isStop _ = false); rfl) | ((with_reducible show isP _ = true); rfl) | ((with_reducible show (isStop _ || isP _) = false); rfl) | assumption | (simp only [gt_some, gb_bool, gb_undef, EVB, Option.bind_some, Nat.reduceEqDiff, reduceIte, beq_self_eq_true, Bool.not_true, Bool.not_false, beq_true, beq_false]; done) | omega | (with_reducible decide) | (simp only [List.length_cons, List.length_nil, List.size_toArray, List.toList_toArray, List.all_cons, List.all_nil, Go.Proofs.YtdfgdpjlbcnkfaaDoorAbs.oneC, Bool.and_self, Go.Proofs.YtdfgdpjlbcnkfaaDoorAbs.St.next_push, Go.Proofs.YtdfgdpjlbcnkfaaDoorAbs.St.next_upd, Nat.zero_add, Nat.reduceAdd, Nat.reduceLeDiff, Nat.le_refl, Nat.zero_le] <;> omega)) only [↓DN, ↓reduceIte, UP, Int.reduceEq, Int.reduceLT, Int.reduceLE, Nat.reduceEqDiff, Nat.reduceAdd, Nat.reduceMul, Nat.reduceSub, Int.reduceToNat, Nat.reduceLeDiff, PF, isStop, isP, goInt, beq_self_eq_true, decide_true, decide_false, Int.toNat_natCast, Int.natCast_zero, nn_eq, nn_ne, e0, e1, e2, e7, e9, e11, e12, e13, e14, e15, e16, e17, hd1, hd2, hd3, hj, w3, w4, wk, hkj, hq])
    | ((first | (with_reducible show O _ _ _ _ _ _ _ _) | (with_reducible show OK _ _ _ _ _ _ _ _ _) | (with_reducible show OKF _ _ _ _ _ _ _ _ _ _) | (with_reducible show OKT _ _ _ _ _ _ _ _ _ _ _ _) | (with_reducible show _ ∧ _)); simp (disch := first | ((with_reducible show isStop _ = false); rfl) | ((with_reducible show isP _ = true); rfl) | ((with_reducible show (isStop _ || isP _) = false); rfl) | assumption | (simp only [gt_some, gb_bool, gb_undef, EVB, Option.bind_some, Nat.reduceEqDiff, reduceIte, beq_self_eq_true, Bool.not_true, Bool.not_false, beq_true, beq_false]; done) | omega | (with_reducible decide) | (simp only [List.length_cons, List.length_nil, List.size_toArray, List.toList_toArray, List.all_cons, List.all_nil, Go.Proofs.YtdfgdpjlbcnkfaaDoorAbs.oneC, Bool.and_self, Go.Proofs.YtdfgdpjlbcnkfaaDoorAbs.St.next_push, Go.Proofs.YtdfgdpjlbcnkfaaDoorAbs.St.next_upd, Nat.zero_add, Nat.reduceAdd, Nat.reduceLeDiff, Nat.le_refl, Nat.zero_le] <;> omega)) only [↓DN, ↓reduceIte, UP, Int.reduceEq, Int.reduceLT, Int.reduceLE, Nat.reduceEqDiff, Nat.reduceAdd, Nat.reduceMul, Nat.reduceSub, Int.reduceToNat, Nat.reduceLeDiff, PF, isStop, isP, goInt, beq_self_eq_true, decide_true, decide_false, Int.toNat_natCast, Int.natCast_zero, nn_eq, nn_ne, e0, e1, e2, e7, e9, e11, e12, e13, e14, e15, e16, e17, hd1, hd2, hd3, hj, w3, w4, wk, hkj, hq])
    | ((with_reducible show O _ _ _ (⟨_, _, _, _, _, some _⟩ :: _) _ _ _ _); refine O_split (by simp (disch := first | ((with_reducible show isStop _ = false); rfl) | ((with_reducible show isP _ = true); rfl) | ((with_reducible show (isStop _ || isP _) = false); rfl) | assumption | (simp only [gt_some, gb_bool, gb_undef, EVB, Option.bind_some, Nat.reduceEqDiff, reduceIte, beq_self_eq_true, Bool.not_true, Bool.not_false, beq_true, beq_false]; done) | omega | (with_reducible decide) | (simp only [List.length_cons, List.length_nil, List.size_toArray, List.toList_toArray, List.all_cons, List.all_nil, Go.Proofs.YtdfgdpjlbcnkfaaDoorAbs.oneC, Bool.and_self, Go.Proofs.YtdfgdpjlbcnkfaaDoorAbs.St.next_push, Go.Proofs.YtdfgdpjlbcnkfaaDoorAbs.St.next_upd, Nat.zero_add, Nat.reduceAdd, Nat.reduceLeDiff, Nat.le_refl, Nat.zero_le] <;> omega)) only [↓DN, ↓reduceIte, UP, Int.reduceEq, Int.reduceLT, Int.reduceLE, Nat.reduceEqDiff, Nat.reduceAdd, Nat.reduceMul, Nat.reduceSub, Int.reduceToNat, Nat.reduceLeDiff, PF, isStop, isP, goInt, beq_self_eq_true, decide_true, decide_false, Int.toNat_natCast, Int.natCast_zero, nn_eq, nn_ne, e0, e1, e2, e7, e9, e11, e12, e13, e14, e15, e16, e17, hd1, hd2, hd3, hj, w3, w4, wk, hkj, hq]; rfl) (fun ht => ?_) (fun ht => ?_) <;> (first | (simp only [Bool.true_eq_false, Bool.false_eq_true] at ht; done) | ((try simp only [Bool.not_eq_true', Bool.not_eq_false'] at ht); (try simp only [ht]); (try simp only [HTN] at ht); (try (exfalso; omega))))))
    have hRy6 := hRy1.kept hK2 (by simp)
    have hapv2 : Apart v2 (S.next + 1) ty ly := fun z hz => ⟨by have := hB2 z hz; have := hRy1.hn; omega, fun e => by have := own_lt hRy1.text e; have := hB2 z hz; omega, fun e => by have := own_lt hRy1.trl e; have := hB2 z hz; omega⟩
    have hOa6 := hOa.kept hK2 (.inl rfl)
    repeat' (first
    | (with_reducible refine W_pushC fun K hK => ?_)
    | (with_reducible refine W_blockI ?_)
    | (with_reducible refine W_scopeI ?_)
    | (with_reducible refine W_labelI ?_)
    | (with_reducible refine W_skipI ?_)
    | (with_reducible refine W_retI ?_)
    | (with_reducible refine W_exitI ?_)
    | (with_reducible refine then_normalI ?_)
    | (with_reducible refine then_retI ?_)
    | (with_reducible refine then_exitI ?_)
    | (with_reducible refine inBlock_normalI ?_)
    | (with_reducible refine inBlock_retI ?_)
    | (with_reducible refine inBlock_exitI ?_)
    | (with_reducible refine inBlock_exitN (by decide) ?_)
    | ((with_reducible refine bodyQ_normal0 ?_); (try simp only [EVB, Nat.reduceEqDiff, reduceIte]))
    | ((with_reducible refine bodyQ_normal1 ?_); (try simp only [EVB, Nat.reduceEqDiff, reduceIte]))
    | ((with_reducible refine bodyQ_normal2 ?_); (try simp only [EVB, Nat.reduceEqDiff, reduceIte]))
    | ((with_reducible refine bodyQ_normal3 ?_); (try simp only [EVB, Nat.reduceEqDiff, reduceIte]))
    | ((with_reducible refine bodyQ_normal4 ?_); (try simp only [EVB, Nat.reduceEqDiff, reduceIte]))
    | ((with_reducible refine bodyQ_ret0 ?_); (try simp only [EVB, Nat.reduceEqDiff, reduceIte]))
    | ((with_reducible refine bodyQ_ret1 ?_); (try simp only [EVB, Nat.reduceEqDiff, reduceIte]))
    | ((with_reducible refine bodyQ_ret2 ?_); (try simp only [EVB, Nat.reduceEqDiff, reduceIte]))
    | ((with_reducible refine bodyQ_ret3 ?_); (try simp only [EVB, Nat.reduceEqDiff, reduceIte]))
    | ((with_reducible refine bodyQ_ret4 ?_); (try simp only [EVB, Nat.reduceEqDiff, reduceIte]))
    | ((with_reducible show C _ _ _ _ _ _); first | ((refine Feed_C h.toHI hRy6 hiy1 (sl_own hO2) hapv2 (fun z hz => own_lt hO2 hz) (by omega) (fun S7 ty7 ly7 my7 pv hRy7 hiy7 hM7 hOp hnp happ => ?_))))
    | (with_reducible refine Cont.use (by assumption) ?_)
    | ((with_reducible show W _ _ (.cond _ _ _) _ _ _); refine W_condI (by simp (disch := first | ((with_reducible show isStop _ = false); rfl) | ((with_reducible show isP _ = true); rfl) | ((with_reducible show (isStop _ || isP _) = false); rfl) | assumption | (simp only [gt_some, gb_bool, gb_undef, EVB, Option.bind_some, Nat.reduceEqDiff, reduceIte, beq_self_eq_true, Bool.not_true, Bool.not_false, beq_true, beq_false]; done) | omega | (with_reducible decide) | (simp only [List.length_cons, List.length_nil, List.size_toArray, List.toList_toArray, List.all_cons, List.all_nil, Go.Proofs.YtdfgdpjlbcnkfaaDoorAbs.oneC, Bool.and_self, Go.Proofs.YtdfgdpjlbcnkfaaDoorAbs.St.next_push, Go.Proofs.YtdfgdpjlbcnkfaaDoorAbs.St.next_upd, Nat.zero_add, Nat.reduceAdd, Nat.reduceLeDiff, Nat.le_refl, Nat.zero_le] <;> omega)) only [↓DN, ↓reduceIte, UP, Int.reduceEq, Int.reduceLT, Int.reduceLE, Nat.reduceEqDiff, Nat.reduceAdd, Nat.reduceMul, Nat.reduceSub, Int.reduceToNat, Nat.reduceLeDiff, PF, isStop, isP, goInt, beq_self_eq_true, decide_true, decide_false, Int.toNat_natCast, Int.natCast_zero, nn_eq, nn_ne, e0, e1, e2, e7, e9, e11, e12, e13, e14, e15, e16, e17, hd1, hd2, hd3, hj, w3, w4, wk, hkj, hq]; rfl) (fun ht => ?_) (fun ht => ?_) <;> (first | (simp only [Bool.true_eq_false, Bool.false_eq_true] at ht; done) | ((try simp only [Bool.not_eq_true', Bool.not_eq_false'] at ht); (try simp only [ht]); (try simp only [HTN] at ht); (try (exfalso; omega)))))
    | ((with_reducible refine W_regionI ?_); simp (disch := first | ((with_reducible show isStop _ = false); rfl) | ((with_reducible show isP _ = true); rfl) | ((with_reducible show (isStop _ || isP _) = false); rfl) | assumption | (simp only [gt_some, gb_bool, gb_undef, EVB, Option.bind_some, Nat.reduceEqDiff, reduceIte, beq_self_eq_true, Bool.not_true, Bool.not_false, beq_true, beq_false]; done) | omega | (with_reducible decide) | (simp only [List.length_cons, List.length_nil, List.size_toArray, List.toList_toArray, List.all_cons, List.all_nil, Go.Proofs.YtdfgdpjlbcnkfaaDoorAbs.oneC, Bool.and_self, Go.Proofs.YtdfgdpjlbcnkfaaDoorAbs.St.next_push, Go.Proofs.YtdfgdpjlbcnkfaaDoorAbs.St.next_upd, Nat.zero_add, Nat.reduceAdd, Nat.reduceLeDiff, Nat.le_refl, Nat.zero_le] <;> omega)) only [↓DN, ↓reduceIte, UP, Int.reduceEq, Int.reduceLT, Int.reduceLE, Nat.reduceEqDiff, Nat.reduceAdd, Nat.reduceMul, Nat.reduceSub, Int.reduceToNat, Nat.reduceLeDiff, PF, isStop, isP, goInt, beq_self_eq_true, decide_true, decide_false, Int.toNat_natCast, Int.natCast_zero, nn_eq, nn_ne, e0, e1, e2, e7, e9, e11, e12, e13, e14, e15, e16, e17, hd1, hd2, hd3, hj, w3, w4, wk, hkj, hq])
    | ((first | (with_reducible show O _ _ _ _ _ _ _ _) | (with_reducible show OK _ _ _ _ _ _ _ _ _) | (with_reducible show OKF _ _ _ _ _ _ _ _ _ _) | (with_reducible show OKT _ _ _ _ _ _ _ _ _ _ _ _) | (with_reducible show _ ∧ _)); simp (disch := first | ((with_reducible show isStop _ = false); rfl) | ((with_reducible show isP _ = true); rfl) | ((with_reducible show (isStop _ || isP _) = false); rfl) | assumption | (simp only [gt_some, gb_bool, gb_undef, EVB, Option.bind_some, Nat.reduceEqDiff, reduceIte, beq_self_eq_true, Bool.not_true, Bool.not_false, beq_true, beq_false]; done) | omega | (with_reducible decide) | (simp only [List.length_cons, List.length_nil, List.size_toArray, List.toList_toArray, List.all_cons, List.all_nil, Go.Proofs.YtdfgdpjlbcnkfaaDoorAbs.oneC, Bool.and_self, Go.Proofs.YtdfgdpjlbcnkfaaDoorAbs.St.next_push, Go.Proofs.YtdfgdpjlbcnkfaaDoorAbs.St.next_upd, Nat.zero_add, Nat.reduceAdd, Nat.reduceLeDiff, Nat.le_refl, Nat.zero_le] <;> omega)) only [↓DN, ↓reduceIte, UP, Int.reduceEq, Int.reduceLT, Int.reduceLE, Nat.reduceEqDiff, Nat.reduceAdd, Nat.reduceMul, Nat.reduceSub, Int.reduceToNat, Nat.reduceLeDiff, PF, isStop, isP, goInt, beq_self_eq_true, decide_true, decide_false, Int.toNat_natCast, Int.natCast_zero, nn_eq, nn_ne, e0, e1, e2, e7, e9, e11, e12, e13, e14, e15, e16, e17, hd1, hd2, hd3, hj, w3, w4, wk, hkj, hq])
    | ((with_reducible show O _ _ _ (⟨_, _, _, _, _, some _⟩ :: _) _ _ _ _); refine O_split (by simp (disch := first | ((with_reducible show isStop _ = false); rfl) | ((with_reducible show isP _ = true); rfl) | ((with_reducible show (isStop _ || isP _) = false); rfl) | assumption | (simp only [gt_some, gb_bool, gb_undef, EVB, Option.bind_some, Nat.reduceEqDiff, reduceIte, beq_self_eq_true, Bool.not_true, Bool.not_false, beq_true, beq_false]; done) | omega | (with_reducible decide) | (simp only [List.length_cons, List.length_nil, List.size_toArray, List.toList_toArray, List.all_cons, List.all_nil, Go.Proofs.YtdfgdpjlbcnkfaaDoorAbs.oneC, Bool.and_self, Go.Proofs.YtdfgdpjlbcnkfaaDoorAbs.St.next_push, Go.Proofs.YtdfgdpjlbcnkfaaDoorAbs.St.next_upd, Nat.zero_add, Nat.reduceAdd, Nat.reduceLeDiff, Nat.le_refl, Nat.zero_le] <;> omega)) only [↓DN, ↓reduceIte, UP, Int.reduceEq, Int.reduceLT, Int.reduceLE, Nat.reduceEqDiff, Nat.reduceAdd, Nat.reduceMul, Nat.reduceSub, Int.reduceToNat, Nat.reduceLeDiff, PF, isStop, isP, goInt, beq_self_eq_true, decide_true, decide_false, Int.toNat_natCast, Int.natCast_zero, nn_eq, nn_ne, e0, e1, e2, e7, e9, e11, e12, e13, e14, e15, e16, e17, hd1, hd2, hd3, hj, w3, w4, wk, hkj, hq]; rfl) (fun ht => ?_) (fun ht => ?_) <;> (first | (simp only [Bool.true_eq_false, Bool.false_eq_true] at ht; done) | ((try simp only [Bool.not_eq_true', Bool.not_eq_false'] at ht); (try simp only [ht]); (try simp only [HTN] at ht); (try (exfalso; omega))))))
    have hOa7 := own_mv hOa6 hapa hM7
    have hapa7 := hapa.mv hM7 (fun z hz => own_lt hOa6 hz)
    have k67 : S1.next ≤ S7.next := Nat.le_trans hK2.1 hM7.next
    have hpn : (feedF ry ((xs.drop k).take j)).2.1.length ≤ 1048576 := by have := feed_out ((xs.drop k).take j) ry; omega
    refine O_append (P := Tryd.prog) (elem := 5) (size := 1) (bytes := 1) (n := all.length) (m := (feedF ry ((xs.drop k).take j)).2.1.length) (xs := u8v all) (ys := u8v (feedF ry ((xs.drop k).take j)).2.1) u22 sz5 by5 ze5 ⟨by decide, by decide, rfl⟩ (by simp only [EVB, Nat.reduceEqDiff, reduceIte, e15]; exact hOa7) (by simp only [EVB, Nat.reduceEqDiff, reduceIte]; exact asrc_own hOp u22) ⟨by simp [u8v], u8v_one _⟩ (by omega) fun av2 S8 hO8 hKp hB => ?_
    simp only [EVB, Nat.reduceEqDiff, reduceIte, e15] at hKp hB
    have hRy8 := hRy7.kept hKp (fun z hz => hapa7 z hz)
    have hO9 : Own 5 1 S8 av2 (all ++ (feedF ry ((xs.drop k).take j)).2.1).length (u8v (all ++ (feedF ry ((xs.drop k).take j)).2.1)) := by
      rw [List.length_append]; simpa [u8v] using hO8
    have hav2 : ∀ z, blkOf av2 = some z → S4.next ≤ z := by
      intro z hz
      rcases hB with q' | ⟨z', q1, q2⟩
      · exact hav z (q' ▸ hz)
      · rw [q2] at hz; cases hz; have := k41.1; omega
    have hap8 : Apart av2 (S.next + 1) ty7 ly7 := by
      intro z hz
      rcases hB with q' | ⟨z', q1, q2⟩
      · exact hapa7 z (q' ▸ hz)
      · rw [q2] at hz; cases hz
        exact ⟨by have := hRy7.hn; omega, fun e => by have := own_lt hRy7.text e; omega, fun e => by have := own_lt hRy7.trl e; omega⟩
    have hty8 : ∀ z, blkOf ty7 = some z → S4.next ≤ z := fun z hz => (hM7.t z hz).elim (fun q' => hty z q') (fun q' => by have := k41.1; have := hK2.1; omega)
    have hly8 : ∀ z, blkOf ly7 = some z → S4.next ≤ z := fun z hz => (hM7.l z hz).elim (fun q' => hly z q') (fun q' => by have := k41.1; have := hK2.1; omega)
    have k48 : Kept S4 S8 (some (S.next + 1)) := by
      refine ⟨by have := k41.1; have := hKp.1; omega, fun z hz hne => ?_⟩
      have z1 : z < S1.next := Nat.lt_of_lt_of_le hz k41.1
      rw [hKp.2 z (by omega) (fun e => by have := hav z e; omega), hM7.keep z (by have := hK2.1; omega) (fun e => hne (by rw [e])) (fun e => by have := hty z e; omega) (fun e => by have := hly z e; omega), hK2.2 z z1 (by simp)]
      exact k41.2 z hz hne
    have hap := feed_append ((xs.drop k).take j) ((xs.drop k).drop j) ry
    rw [List.take_append_drop, List.drop_drop] at hap
    have hfl := feed_le ((xs.drop k).take j) ry
    have hfo := feed_out ((xs.drop k).take j) ry
    have w5 : IntKind.i64.wrap ((k : Int) + ((feedF ry ((xs.drop k).take j)).1 : Int)) = ((k + (feedF ry ((xs.drop k).take j)).1 : Nat) : Int) := by rw [Go.Proofs.YtdfgdpjlbcnkfaaDoorAbs.wp64 (by omega) (by omega)]; omega
    have w6 : IntKind.i64.wrap ((i : Int) + 1) = ((i + 1 : Nat) : Int) := by rw [Go.Proofs.YtdfgdpjlbcnkfaaDoorAbs.wp64 (by omega) (by omega)]; omega
    by_cases hmj : (feedF ry ((xs.drop k).take j)).1 < j
    · have hd4 : decide (((feedF ry ((xs.drop k).take j)).1 : Int) < (j : Int)) = true := decide_eq_true (by omega)
      rw [if_pos (by rw [hpl]; exact hmj)] at hap
      rw [hap] at hF
      have f1 : (feedF r0 xs).1 = k + (feedF ry ((xs.drop k).take j)).1 := by rw [hF]
      have f2 : (feedF r0 xs).2.1 = all ++ (feedF ry ((xs.drop k).take j)).2.1 := by rw [hF]
      have f3 : (feedF r0 xs).2.2 = (feedF ry ((xs.drop k).take j)).2.2 := by rw [hF]
      rw [← f2] at hO9
      rw [← f3] at hRy8
      repeat' (first
    | (with_reducible refine W_pushC fun K hK => ?_)
    | (with_reducible refine W_blockI ?_)
    | (with_reducible refine W_scopeI ?_)
    | (with_reducible refine W_labelI ?_)
    | (with_reducible refine W_skipI ?_)
    | (with_reducible refine W_retI ?_)
    | (with_reducible refine W_exitI ?_)
    | (with_reducible refine then_normalI ?_)
    | (with_reducible refine then_retI ?_)
    | (with_reducible refine then_exitI ?_)
    | (with_reducible refine inBlock_normalI ?_)
    | (with_reducible refine inBlock_retI ?_)
    | (with_reducible refine inBlock_exitI ?_)
    | (with_reducible refine inBlock_exitN (by decide) ?_)
    | ((with_reducible refine bodyQ_normal0 ?_); (try simp only [EVB, Nat.reduceEqDiff, reduceIte]))
    | ((with_reducible refine bodyQ_normal1 ?_); (try simp only [EVB, Nat.reduceEqDiff, reduceIte]))
    | ((with_reducible refine bodyQ_normal2 ?_); (try simp only [EVB, Nat.reduceEqDiff, reduceIte]))
    | ((with_reducible refine bodyQ_normal3 ?_); (try simp only [EVB, Nat.reduceEqDiff, reduceIte]))
    | ((with_reducible refine bodyQ_normal4 ?_); (try simp only [EVB, Nat.reduceEqDiff, reduceIte]))
    | ((with_reducible refine bodyQ_ret0 ?_); (try simp only [EVB, Nat.reduceEqDiff, reduceIte]))
    | ((with_reducible refine bodyQ_ret1 ?_); (try simp only [EVB, Nat.reduceEqDiff, reduceIte]))
    | ((with_reducible refine bodyQ_ret2 ?_); (try simp only [EVB, Nat.reduceEqDiff, reduceIte]))
    | ((with_reducible refine bodyQ_ret3 ?_); (try simp only [EVB, Nat.reduceEqDiff, reduceIte]))
    | ((with_reducible refine bodyQ_ret4 ?_); (try simp only [EVB, Nat.reduceEqDiff, reduceIte]))
    | (with_reducible refine Cont.use (by assumption) ?_)
    | ((with_reducible show W _ _ (.cond _ _ _) _ _ _); refine W_condI (by simp (disch := first | ((with_reducible show isStop _ = false); rfl) | ((with_reducible show isP _ = true); rfl) | ((with_reducible show (isStop _ || isP _) = false); rfl) | assumption | (simp only [gt_some, gb_bool, gb_undef, EVB, Option.bind_some, Nat.reduceEqDiff, reduceIte, beq_self_eq_true, Bool.not_true, Bool.not_false, beq_true, beq_false]; done) | omega | (with_reducible decide) | (simp only [List.length_cons, List.length_nil, List.size_toArray, List.toList_toArray, List.all_cons, List.all_nil, Go.Proofs.YtdfgdpjlbcnkfaaDoorAbs.oneC, Bool.and_self, Go.Proofs.YtdfgdpjlbcnkfaaDoorAbs.St.next_push, Go.Proofs.YtdfgdpjlbcnkfaaDoorAbs.St.next_upd, Nat.zero_add, Nat.reduceAdd, Nat.reduceLeDiff, Nat.le_refl, Nat.zero_le] <;> omega)) only [↓DN, ↓reduceIte, UP, Int.reduceEq, Int.reduceLT, Int.reduceLE, Nat.reduceEqDiff, Nat.reduceAdd, Nat.reduceMul, Nat.reduceSub, Int.reduceToNat, Nat.reduceLeDiff, PF, isStop, isP, goInt, beq_self_eq_true, decide_true, decide_false, Int.toNat_natCast, Int.natCast_zero, nn_eq, nn_ne, e0, e1, e2, e7, e9, e11, e12, e13, e14, e15, e16, e17, hd1, hd2, hd3, hj, w3, w4, wk, hkj, hq, w5, w6, hd4]; rfl) (fun ht => ?_) (fun ht => ?_) <;> (first | (simp only [Bool.true_eq_false, Bool.false_eq_true] at ht; done) | ((try simp only [Bool.not_eq_true', Bool.not_eq_false'] at ht); (try simp only [ht]); (try simp only [HTN] at ht); (try (exfalso; omega)))))
    | ((with_reducible refine W_regionI ?_); simp (disch := first | ((with_reducible show isStop _ = false); rfl) | ((with_reducible show isP _ = true); rfl) | ((with_reducible show (isStop _ || isP _) = false); rfl) | assumption | (simp only [gt_some, gb_bool, gb_undef, EVB, Option.bind_some, Nat.reduceEqDiff, reduceIte, beq_self_eq_true, Bool.not_true, Bool.not_false, beq_true, beq_false]; done) | omega | (with_reducible decide) | (simp only [List.length_cons, List.length_nil, List.size_toArray, List.toList_toArray, List.all_cons, List.all_nil, Go.Proofs.YtdfgdpjlbcnkfaaDoorAbs.oneC, Bool.and_self, Go.Proofs.YtdfgdpjlbcnkfaaDoorAbs.St.next_push, Go.Proofs.YtdfgdpjlbcnkfaaDoorAbs.St.next_upd, Nat.zero_add, Nat.reduceAdd, Nat.reduceLeDiff, Nat.le_refl, Nat.zero_le] <;> omega)) only [↓DN, ↓reduceIte, UP, Int.reduceEq, Int.reduceLT, Int.reduceLE, Nat.reduceEqDiff, Nat.reduceAdd, Nat.reduceMul, Nat.reduceSub, Int.reduceToNat, Nat.reduceLeDiff, PF, isStop, isP, goInt, beq_self_eq_true, decide_true, decide_false, Int.toNat_natCast, Int.natCast_zero, nn_eq, nn_ne, e0, e1, e2, e7, e9, e11, e12, e13, e14, e15, e16, e17, hd1, hd2, hd3, hj, w3, w4, wk, hkj, hq, w5, w6, hd4])
    | ((first | (with_reducible show O _ _ _ _ _ _ _ _) | (with_reducible show OK _ _ _ _ _ _ _ _ _) | (with_reducible show OKF _ _ _ _ _ _ _ _ _ _) | (with_reducible show OKT _ _ _ _ _ _ _ _ _ _ _ _) | (with_reducible show _ ∧ _)); simp (disch := first | ((with_reducible show isStop _ = false); rfl) | ((with_reducible show isP _ = true); rfl) | ((with_reducible show (isStop _ || isP _) = false); rfl) | assumption | (simp only [gt_some, gb_bool, gb_undef, EVB, Option.bind_some, Nat.reduceEqDiff, reduceIte, beq_self_eq_true, Bool.not_true, Bool.not_false, beq_true, beq_false]; done) | omega | (with_reducible decide) | (simp only [List.length_cons, List.length_nil, List.size_toArray, List.toList_toArray, List.all_cons, List.all_nil, Go.Proofs.YtdfgdpjlbcnkfaaDoorAbs.oneC, Bool.and_self, Go.Proofs.YtdfgdpjlbcnkfaaDoorAbs.St.next_push, Go.Proofs.YtdfgdpjlbcnkfaaDoorAbs.St.next_upd, Nat.zero_add, Nat.reduceAdd, Nat.reduceLeDiff, Nat.le_refl, Nat.zero_le] <;> omega)) only [↓DN, ↓reduceIte, UP, Int.reduceEq, Int.reduceLT, Int.reduceLE, Nat.reduceEqDiff, Nat.reduceAdd, Nat.reduceMul, Nat.reduceSub, Int.reduceToNat, Nat.reduceLeDiff, PF, isStop, isP, goInt, beq_self_eq_true, decide_true, decide_false, Int.toNat_natCast, Int.natCast_zero, nn_eq, nn_ne, e0, e1, e2, e7, e9, e11, e12, e13, e14, e15, e16, e17, hd1, hd2, hd3, hj, w3, w4, wk, hkj, hq, w5, w6, hd4])
    | ((with_reducible show O _ _ _ (⟨_, _, _, _, _, some _⟩ :: _) _ _ _ _); refine O_split (by simp (disch := first | ((with_reducible show isStop _ = false); rfl) | ((with_reducible show isP _ = true); rfl) | ((with_reducible show (isStop _ || isP _) = false); rfl) | assumption | (simp only [gt_some, gb_bool, gb_undef, EVB, Option.bind_some, Nat.reduceEqDiff, reduceIte, beq_self_eq_true, Bool.not_true, Bool.not_false, beq_true, beq_false]; done) | omega | (with_reducible decide) | (simp only [List.length_cons, List.length_nil, List.size_toArray, List.toList_toArray, List.all_cons, List.all_nil, Go.Proofs.YtdfgdpjlbcnkfaaDoorAbs.oneC, Bool.and_self, Go.Proofs.YtdfgdpjlbcnkfaaDoorAbs.St.next_push, Go.Proofs.YtdfgdpjlbcnkfaaDoorAbs.St.next_upd, Nat.zero_add, Nat.reduceAdd, Nat.reduceLeDiff, Nat.le_refl, Nat.zero_le] <;> omega)) only [↓DN, ↓reduceIte, UP, Int.reduceEq, Int.reduceLT, Int.reduceLE, Nat.reduceEqDiff, Nat.reduceAdd, Nat.reduceMul, Nat.reduceSub, Int.reduceToNat, Nat.reduceLeDiff, PF, isStop, isP, goInt, beq_self_eq_true, decide_true, decide_false, Int.toNat_natCast, Int.natCast_zero, nn_eq, nn_ne, e0, e1, e2, e7, e9, e11, e12, e13, e14, e15, e16, e17, hd1, hd2, hd3, hj, w3, w4, wk, hkj, hq, w5, w6, hd4]; rfl) (fun ht => ?_) (fun ht => ?_) <;> (first | (simp only [Bool.true_eq_false, Bool.false_eq_true] at ht; done) | ((try simp only [Bool.not_eq_true', Bool.not_eq_false'] at ht); (try simp only [ht]); (try simp only [HTN] at ht); (try (exfalso; omega)))))
    | ((refine fin _ _ ry ty7 ly7 av2 my7 (by simp only [EVB, Nat.reduceEqDiff, reduceIte, e2]) (by simp only [EVB, Nat.reduceEqDiff, reduceIte, e7]) (by simp only [EVB, Nat.reduceEqDiff, reduceIte, e9]) (by simp only [EVB, Nat.reduceEqDiff, reduceIte, e11]) (by simp only [EVB, Nat.reduceEqDiff, reduceIte, e12]) (by simp only [EVB, Nat.reduceEqDiff, reduceIte, e13]) (by simp only [EVB, Nat.reduceEqDiff, reduceIte, e14]) (by simp only [EVB, Nat.reduceEqDiff, reduceIte]) (by simp only [EVB, Nat.reduceEqDiff, reduceIte]; rw [f1]) k48 hRy8 hty8 hly8 hO9 hap8)))
    · have hd4 : decide (((feedF ry ((xs.drop k).take j)).1 : Int) < (j : Int)) = false := decide_eq_false (by omega)
      have hmj' : (feedF ry ((xs.drop k).take j)).1 = j := by omega
      rw [if_neg (by rw [hpl]; exact hmj), hpl] at hap
      rw [hap] at hF
      repeat' (first
    | (with_reducible refine W_pushC fun K hK => ?_)
    | (with_reducible refine W_blockI ?_)
    | (with_reducible refine W_scopeI ?_)
    | (with_reducible refine W_labelI ?_)
    | (with_reducible refine W_skipI ?_)
    | (with_reducible refine W_retI ?_)
    | (with_reducible refine W_exitI ?_)
    | (with_reducible refine then_normalI ?_)
    | (with_reducible refine then_retI ?_)
    | (with_reducible refine then_exitI ?_)
    | (with_reducible refine inBlock_normalI ?_)
    | (with_reducible refine inBlock_retI ?_)
    | (with_reducible refine inBlock_exitI ?_)
    | (with_reducible refine inBlock_exitN (by decide) ?_)
    | ((with_reducible refine bodyQ_normal0 ?_); (try simp only [EVB, Nat.reduceEqDiff, reduceIte]))
    | ((with_reducible refine bodyQ_normal1 ?_); (try simp only [EVB, Nat.reduceEqDiff, reduceIte]))
    | ((with_reducible refine bodyQ_normal2 ?_); (try simp only [EVB, Nat.reduceEqDiff, reduceIte]))
    | ((with_reducible refine bodyQ_normal3 ?_); (try simp only [EVB, Nat.reduceEqDiff, reduceIte]))
    | ((with_reducible refine bodyQ_normal4 ?_); (try simp only [EVB, Nat.reduceEqDiff, reduceIte]))
    | ((with_reducible refine bodyQ_ret0 ?_); (try simp only [EVB, Nat.reduceEqDiff, reduceIte]))
    | ((with_reducible refine bodyQ_ret1 ?_); (try simp only [EVB, Nat.reduceEqDiff, reduceIte]))
    | ((with_reducible refine bodyQ_ret2 ?_); (try simp only [EVB, Nat.reduceEqDiff, reduceIte]))
    | ((with_reducible refine bodyQ_ret3 ?_); (try simp only [EVB, Nat.reduceEqDiff, reduceIte]))
    | ((with_reducible refine bodyQ_ret4 ?_); (try simp only [EVB, Nat.reduceEqDiff, reduceIte]))
    | (with_reducible refine Cont.use (by assumption) ?_)
    | ((with_reducible show W _ _ (.cond _ _ _) _ _ _); refine W_condI (by simp (disch := first | ((with_reducible show isStop _ = false); rfl) | ((with_reducible show isP _ = true); rfl) | ((with_reducible show (isStop _ || isP _) = false); rfl) | assumption | (simp only [gt_some, gb_bool, gb_undef, EVB, Option.bind_some, Nat.reduceEqDiff, reduceIte, beq_self_eq_true, Bool.not_true, Bool.not_false, beq_true, beq_false]; done) | omega | (with_reducible decide) | (simp only [List.length_cons, List.length_nil, List.size_toArray, List.toList_toArray, List.all_cons, List.all_nil, Go.Proofs.YtdfgdpjlbcnkfaaDoorAbs.oneC, Bool.and_self, Go.Proofs.YtdfgdpjlbcnkfaaDoorAbs.St.next_push, Go.Proofs.YtdfgdpjlbcnkfaaDoorAbs.St.next_upd, Nat.zero_add, Nat.reduceAdd, Nat.reduceLeDiff, Nat.le_refl, Nat.zero_le] <;> omega)) only [↓DN, ↓reduceIte, UP, Int.reduceEq, Int.reduceLT, Int.reduceLE, Nat.reduceEqDiff, Nat.reduceAdd, Nat.reduceMul, Nat.reduceSub, Int.reduceToNat, Nat.reduceLeDiff, PF, isStop, isP, goInt, beq_self_eq_true, decide_true, decide_false, Int.toNat_natCast, Int.natCast_zero, nn_eq, nn_ne, e0, e1, e2, e7, e9, e11, e12, e13, e14, e15, e16, e17, hd1, hd2, hd3, hj, w3, w4, wk, hkj, hq, w5, w6, hd4]; rfl) (fun ht => ?_) (fun ht => ?_) <;> (first | (simp only [Bool.true_eq_false, Bool.false_eq_true] at ht; done) | ((try simp only [Bool.not_eq_true', Bool.not_eq_false'] at ht); (try simp only [ht]); (try simp only [HTN] at ht); (try (exfalso; omega)))))
    | ((with_reducible refine W_regionI ?_); simp (disch := first | ((with_reducible show isStop _ = false); rfl) | ((with_reducible show isP _ = true); rfl) | ((with_reducible show (isStop _ || isP _) = false); rfl) | assumption | (simp only [gt_some, gb_bool, gb_undef, EVB, Option.bind_some, Nat.reduceEqDiff, reduceIte, beq_self_eq_true, Bool.not_true, Bool.not_false, beq_true, beq_false]; done) | omega | (with_reducible decide) | (simp only [List.length_cons, List.length_nil, List.size_toArray, List.toList_toArray, List.all_cons, List.all_nil, Go.Proofs.YtdfgdpjlbcnkfaaDoorAbs.oneC, Bool.and_self, Go.Proofs.YtdfgdpjlbcnkfaaDoorAbs.St.next_push, Go.Proofs.YtdfgdpjlbcnkfaaDoorAbs.St.next_upd, Nat.zero_add, Nat.reduceAdd, Nat.reduceLeDiff, Nat.le_refl, Nat.zero_le] <;> omega)) only [↓DN, ↓reduceIte, UP, Int.reduceEq, Int.reduceLT, Int.reduceLE, Nat.reduceEqDiff, Nat.reduceAdd, Nat.reduceMul, Nat.reduceSub, Int.reduceToNat, Nat.reduceLeDiff, PF, isStop, isP, goInt, beq_self_eq_true, decide_true, decide_false, Int.toNat_natCast, Int.natCast_zero, nn_eq, nn_ne, e0, e1, e2, e7, e9, e11, e12, e13, e14, e15, e16, e17, hd1, hd2, hd3, hj, w3, w4, wk, hkj, hq, w5, w6, hd4])
    | ((first | (with_reducible show O _ _ _ _ _ _ _ _) | (with_reducible show OK _ _ _ _ _ _ _ _ _) | (with_reducible show OKF _ _ _ _ _ _ _ _ _ _) | (with_reducible show OKT _ _ _ _ _ _ _ _ _ _ _ _) | (with_reducible show _ ∧ _)); simp (disch := first | ((with_reducible show isStop _ = false); rfl) | ((with_reducible show isP _ = true); rfl) | ((with_reducible show (isStop _ || isP _) = false); rfl) | assumption | (simp only [gt_some, gb_bool, gb_undef, EVB, Option.bind_some, Nat.reduceEqDiff, reduceIte, beq_self_eq_true, Bool.not_true, Bool.not_false, beq_true, beq_false]; done) | omega | (with_reducible decide) | (simp only [List.length_cons, List.length_nil, List.size_toArray, List.toList_toArray, List.all_cons, List.all_nil, Go.Proofs.YtdfgdpjlbcnkfaaDoorAbs.oneC, Bool.and_self, Go.Proofs.YtdfgdpjlbcnkfaaDoorAbs.St.next_push, Go.Proofs.YtdfgdpjlbcnkfaaDoorAbs.St.next_upd, Nat.zero_add, Nat.reduceAdd, Nat.reduceLeDiff, Nat.le_refl, Nat.zero_le] <;> omega)) only [↓DN, ↓reduceIte, UP, Int.reduceEq, Int.reduceLT, Int.reduceLE, Nat.reduceEqDiff, Nat.reduceAdd, Nat.reduceMul, Nat.reduceSub, Int.reduceToNat, Nat.reduceLeDiff, PF, isStop, isP, goInt, beq_self_eq_true, decide_true, decide_false, Int.toNat_natCast, Int.natCast_zero, nn_eq, nn_ne, e0, e1, e2, e7, e9, e11, e12, e13, e14, e15, e16, e17, hd1, hd2, hd3, hj, w3, w4, wk, hkj, hq, w5, w6, hd4])
    | ((with_reducible show O _ _ _ (⟨_, _, _, _, _, some _⟩ :: _) _ _ _ _); refine O_split (by simp (disch := first | ((with_reducible show isStop _ = false); rfl) | ((with_reducible show isP _ = true); rfl) | ((with_reducible show (isStop _ || isP _) = false); rfl) | assumption | (simp only [gt_some, gb_bool, gb_undef, EVB, Option.bind_some, Nat.reduceEqDiff, reduceIte, beq_self_eq_true, Bool.not_true, Bool.not_false, beq_true, beq_false]; done) | omega | (with_reducible decide) | (simp only [List.length_cons, List.length_nil, List.size_toArray, List.toList_toArray, List.all_cons, List.all_nil, Go.Proofs.YtdfgdpjlbcnkfaaDoorAbs.oneC, Bool.and_self, Go.Proofs.YtdfgdpjlbcnkfaaDoorAbs.St.next_push, Go.Proofs.YtdfgdpjlbcnkfaaDoorAbs.St.next_upd, Nat.zero_add, Nat.reduceAdd, Nat.reduceLeDiff, Nat.le_refl, Nat.zero_le] <;> omega)) only [↓DN, ↓reduceIte, UP, Int.reduceEq, Int.reduceLT, Int.reduceLE, Nat.reduceEqDiff, Nat.reduceAdd, Nat.reduceMul, Nat.reduceSub, Int.reduceToNat, Nat.reduceLeDiff, PF, isStop, isP, goInt, beq_self_eq_true, decide_true, decide_false, Int.toNat_natCast, Int.natCast_zero, nn_eq, nn_ne, e0, e1, e2, e7, e9, e11, e12, e13, e14, e15, e16, e17, hd1, hd2, hd3, hj, w3, w4, wk, hkj, hq, w5, w6, hd4]; rfl) (fun ht => ?_) (fun ht => ?_) <;> (first | (simp only [Bool.true_eq_false, Bool.false_eq_true] at ht; done) | ((try simp only [Bool.not_eq_true', Bool.not_eq_false'] at ht); (try simp only [ht]); (try simp only [HTN] at ht); (try (exfalso; omega)))))
    | ((refine ⟨xs.length - (k + j), by omega, k + j, i + 1, (feedF ry ((xs.drop k).take j)).2.2, all ++ (feedF ry ((xs.drop k).take j)).2.1, ty7, ly7, av2, my7, by simp only [EVB, Nat.reduceEqDiff, reduceIte, e0], by simp only [EVB, Nat.reduceEqDiff, reduceIte, e1], by simp only [EVB, Nat.reduceEqDiff, reduceIte, e2], by simp only [EVB, Nat.reduceEqDiff, reduceIte, e7], by simp only [EVB, Nat.reduceEqDiff, reduceIte, e9], by simp only [EVB, Nat.reduceEqDiff, reduceIte, e11], by simp only [EVB, Nat.reduceEqDiff, reduceIte, e12], by simp only [EVB, Nat.reduceEqDiff, reduceIte, e13], by simp only [EVB, Nat.reduceEqDiff, reduceIte, e14], by simp only [EVB, Nat.reduceEqDiff, reduceIte], by simp only [EVB, Nat.reduceEqDiff, reduceIte]; rw [hmj'], by simp only [EVB, Nat.reduceEqDiff, reduceIte], by omega, by omega, rfl, k48, hRy8, hiy7, hty8, hly8, hO9, hav2, hap8, by rw [List.length_append]; omega, by rw [hF]; simp [Nat.add_assoc]⟩)))
end
end Go.Proofs.YtdfgdpjlbcnkfaaDoor.Q
