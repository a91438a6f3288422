/- The chunk reader on the runner: its functions, the law that feeds it, the plain part; for the inputs that each theorem names. -/
import Derived.Test.YtdfgdpjlbcnkfaaDoorCkZ
-- UF: CkFacts
namespace Go.Proofs.YtdfgdpjlbcnkfaaDoor.Q
open Go Go.Proofs.YtdfgdpjlbcnkfaaDoorAbs Go.Proofs
set_option linter.unusedVariables false
set_option linter.unusedSimpArgs false
set_option maxRecDepth 100000
set_option maxHeartbeats 4000000
attribute [local irreducible] Go.Proofs.YtdfgdpjlbcnkfaaDoorAbs.O Go.Proofs.YtdfgdpjlbcnkfaaDoorAbs.W Go.Proofs.YtdfgdpjlbcnkfaaDoorAbs.C Go.Proofs.YtdfgdpjlbcnkfaaDoorAbs.OK Go.Proofs.YtdfgdpjlbcnkfaaDoorAbs.OKF Go.Proofs.YtdfgdpjlbcnkfaaDoorAbs.OKT Go.Proofs.YtdfgdpjlbcnkfaaDoorAbs.then_ Go.Proofs.YtdfgdpjlbcnkfaaDoorAbs.inBlock_ Go.Proofs.YtdfgdpjlbcnkfaaDoorAbs.bodyQ Go.Proofs.YtdfgdpjlbcnkfaaDoorAbs.Cont
section
variable {I : Prims} {S : St} {Q : Value → St → Prop}
/-- bytes.Clone. -/
theorem CloneB_C (h : HI I) {v : Value} {xs : List UInt8} (hO : Own 5 1 S v xs.length (u8v xs)) (hn : xs.length ≤ 1048576)
    (hQ : ∀ v' S', Own 5 1 S' v' xs.length (u8v xs) → Kept S S' none → (∀ i, blkOf v' = some i → S.next ≤ i) → Q v' S') : C Tryd.prog I 34 #[v] S Q := by
  refine C_body (rs := [.tmp 2]) (h.no 34 (by decide)) Tryd.func34 rfl rfl ok34 ?_
  obtain ⟨u22, sz5, u5, u9, u3, u29, u34, u33, sz3, u4, u41, sz66, u46, sz28, u47, u52, sz22, sz62, sz24, sz59, u59, sz60, u60, sz41, sz58, u58, sz73, sz34, sz4, sz9, sz83, u88, sz86, u112, sz118, u118, u2, sz126, u126, u21, sz130, u130, u139, u140, sz141, u141, u145, u148, sz147, u154, u155⟩ := UF
  by_cases h0 : xs.length = 0
  · have hv : v = .slice none 0 0 := by
      rcases hO.2.2 with ⟨e, _⟩ | ⟨b, m, _, _, _, _, q⟩
      · exact e
      · omega
    subst hv
    repeat' (first
    | (with_reducible refine W_pushC fun K hK => ?_)
    | (with_reducible refine W_blockI ?_)
    | (with_reducible refine W_scopeI ?_)
    | (with_reducible refine W_labelI ?_)
    | (with_reducible refine W_skipI ?_)
    | (with_reducible refine W_retI ?_)
    | (with_reducible refine W_exitI ?_)
    | (with_reducible refine then_normalI ?_)
    | (with_reducible refine then_retI ?_)
    | (with_reducible refine then_exitI ?_)
    | (with_reducible refine inBlock_normalI ?_)
    | (with_reducible refine inBlock_retI ?_)
    | (with_reducible refine inBlock_exitI ?_)
    | (with_reducible refine inBlock_exitN (by decide) ?_)
    | ((with_reducible refine bodyQ_normal0 ?_); (try simp only [EVB, Nat.reduceEqDiff, reduceIte]))
    | ((with_reducible refine bodyQ_normal1 ?_); (try simp only [EVB, Nat.reduceEqDiff, reduceIte]))
    | ((with_reducible refine bodyQ_normal2 ?_); (try simp only [EVB, Nat.reduceEqDiff, reduceIte]))
    | ((with_reducible refine bodyQ_normal3 ?_); (try simp only [EVB, Nat.reduceEqDiff, reduceIte]))
    | ((with_reducible refine bodyQ_normal4 ?_); (try simp only [EVB, Nat.reduceEqDiff, reduceIte]))
    | ((with_reducible refine bodyQ_ret0 ?_); (try simp only [EVB, Nat.reduceEqDiff, reduceIte]))
    | ((with_reducible refine bodyQ_ret1 ?_); (try simp only [EVB, Nat.reduceEqDiff, reduceIte]))
    | ((with_reducible refine bodyQ_ret2 ?_); (try simp only [EVB, Nat.reduceEqDiff, reduceIte]))
    | ((with_reducible refine bodyQ_ret3 ?_); (try simp only [EVB, Nat.reduceEqDiff, reduceIte]))
    | ((with_reducible refine bodyQ_ret4 ?_); (try simp only [EVB, Nat.reduceEqDiff, reduceIte]))
    | (with_reducible refine Cont.use (by assumption) ?_)
    | ((with_reducible show W _ _ (.cond _ _ _) _ _ _); refine W_condI (by simp (disch := first | ((with_reducible show isStop _ = false); rfl) | ((with_reducible show isP _ = true); rfl) | ((with_reducible show (isStop _ || isP _) = false); rfl) | assumption | (simp only [gt_some, gb_bool, gb_undef, EVB, Option.bind_some, Nat.reduceEqDiff, reduceIte, beq_self_eq_true, Bool.not_true, Bool.not_false, beq_true, beq_false]; done) | omega | (with_reducible decide) | (simp only [List.length_cons, List.length_nil, List.size_toArray, List.toList_toArray, List.all_cons, List.all_nil, Go.Proofs.YtdfgdpjlbcnkfaaDoorAbs.oneC, Bool.and_self, Go.Proofs.YtdfgdpjlbcnkfaaDoorAbs.St.next_push, Go.Proofs.YtdfgdpjlbcnkfaaDoorAbs.St.next_upd, Nat.zero_add, Nat.reduceAdd, Nat.reduceLeDiff, Nat.le_refl, Nat.zero_le] <;> omega)) only [↓DN, ↓reduceIte, UP, Int.reduceEq, Int.reduceLT, Int.reduceLE, Nat.reduceEqDiff, Nat.reduceAdd, Nat.reduceMul, Nat.reduceSub, Int.reduceToNat, Nat.reduceLeDiff, PF, isStop, isP, goInt, beq_self_eq_true, decide_true, decide_false, Int.toNat_natCast, Int.natCast_zero, nn_eq, nn_ne, nsl22_eq]; rfl) (fun ht => ?_) (fun ht => ?_) <;> (first | (simp only [Bool.true_eq_false, Bool.false_eq_true] at ht; done) | ((try simp only [Bool.not_eq_true', Bool.not_eq_false'] at ht); (try simp only [ht]); (try simp only [HTN] at ht); (try (exfalso; omega)))))
    | ((with_reducible refine W_regionI ?_); simp (disch := first | ((with_reducible show isStop _ = false); rfl) | ((with_reducible show isP _ = true); rfl) | ((with_reducible show (isStop _ || isP _) = false); rfl) | assumption | (simp only [gt_some, gb_bool, gb_undef, EVB, Option.bind_some, Nat.reduceEqDiff, reduceIte, beq_self_eq_true, Bool.not_true, Bool.not_false, beq_true, beq_false]; done) | omega | (with_reducible decide) | (simp only [List.length_cons, List.length_nil, List.size_toArray, List.toList_toArray, List.all_cons, List.all_nil, Go.Proofs.YtdfgdpjlbcnkfaaDoorAbs.oneC, Bool.and_self, Go.Proofs.YtdfgdpjlbcnkfaaDoorAbs.St.next_push, Go.Proofs.YtdfgdpjlbcnkfaaDoorAbs.St.next_upd, Nat.zero_add, Nat.reduceAdd, Nat.reduceLeDiff, Nat.le_refl, Nat.zero_le] <;> omega)) only [↓DN, ↓reduceIte, UP, Int.reduceEq, Int.reduceLT, Int.reduceLE, Nat.reduceEqDiff, Nat.reduceAdd, Nat.reduceMul, Nat.reduceSub, Int.reduceToNat, Nat.reduceLeDiff, PF, isStop, isP, goInt, beq_self_eq_true, decide_true, decide_false, Int.toNat_natCast, Int.natCast_zero, nn_eq, nn_ne, nsl22_eq])
    | ((first | (with_reducible show O _ _ _ _ _ _ _ _) | (with_reducible show OK _ _ _ _ _ _ _ _ _) | (with_reducible show OKF _ _ _ _ _ _ _ _ _ _) | (with_reducible show OKT _ _ _ _ _ _ _ _ _ _ _ _) | (with_reducible show _ ∧ _)); simp (disch := first | ((with_reducible show isStop _ = false); rfl) | ((with_reducible show isP _ = true); rfl) | ((with_reducible show (isStop _ || isP _) = false); rfl) | assumption | (simp only [gt_some, gb_bool, gb_undef, EVB, Option.bind_some, Nat.reduceEqDiff, reduceIte, beq_self_eq_true, Bool.not_true, Bool.not_false, beq_true, beq_false]; done) | omega | (with_reducible decide) | (simp only [List.length_cons, List.length_nil, List.size_toArray, List.toList_toArray, List.all_cons, List.all_nil, Go.Proofs.YtdfgdpjlbcnkfaaDoorAbs.oneC, Bool.and_self, Go.Proofs.YtdfgdpjlbcnkfaaDoorAbs.St.next_push, Go.Proofs.YtdfgdpjlbcnkfaaDoorAbs.St.next_upd, Nat.zero_add, Nat.reduceAdd, Nat.reduceLeDiff, Nat.le_refl, Nat.zero_le] <;> omega)) only [↓DN, ↓reduceIte, UP, Int.reduceEq, Int.reduceLT, Int.reduceLE, Nat.reduceEqDiff, Nat.reduceAdd, Nat.reduceMul, Nat.reduceSub, Int.reduceToNat, Nat.reduceLeDiff, PF, isStop, isP, goInt, beq_self_eq_true, decide_true, decide_false, Int.toNat_natCast, Int.natCast_zero, nn_eq, nn_ne, nsl22_eq])
    | ((with_reducible show O _ _ _ (⟨_, _, _, _, _, some _⟩ :: _) _ _ _ _); refine O_split (by simp (disch := first | ((with_reducible show isStop _ = false); rfl) | ((with_reducible show isP _ = true); rfl) | ((with_reducible show (isStop _ || isP _) = false); rfl) | assumption | (simp only [gt_some, gb_bool, gb_undef, EVB, Option.bind_some, Nat.reduceEqDiff, reduceIte, beq_self_eq_true, Bool.not_true, Bool.not_false, beq_true, beq_false]; done) | omega | (with_reducible decide) | (simp only [List.length_cons, List.length_nil, List.size_toArray, List.toList_toArray, List.all_cons, List.all_nil, Go.Proofs.YtdfgdpjlbcnkfaaDoorAbs.oneC, Bool.and_self, Go.Proofs.YtdfgdpjlbcnkfaaDoorAbs.St.next_push, Go.Proofs.YtdfgdpjlbcnkfaaDoorAbs.St.next_upd, Nat.zero_add, Nat.reduceAdd, Nat.reduceLeDiff, Nat.le_refl, Nat.zero_le] <;> omega)) only [↓DN, ↓reduceIte, UP, Int.reduceEq, Int.reduceLT, Int.reduceLE, Nat.reduceEqDiff, Nat.reduceAdd, Nat.reduceMul, Nat.reduceSub, Int.reduceToNat, Nat.reduceLeDiff, PF, isStop, isP, goInt, beq_self_eq_true, decide_true, decide_false, Int.toNat_natCast, Int.natCast_zero, nn_eq, nn_ne, nsl22_eq]; rfl) (fun ht => ?_) (fun ht => ?_) <;> (first | (simp only [Bool.true_eq_false, Bool.false_eq_true] at ht; done) | ((try simp only [Bool.not_eq_true', Bool.not_eq_false'] at ht); (try simp only [ht]); (try simp only [HTN] at ht); (try (exfalso; omega)))))
    | (exact hQ _ _ hO (Kept.refl _ _) (fun i hi => by cases hi)))
  · obtain ⟨b, m, rfl, h1, h2, h3⟩ := own_some hO (by omega)
    have hp : 0 < xs.length := by omega
    repeat' (first
    | (with_reducible refine W_pushC fun K hK => ?_)
    | (with_reducible refine W_blockI ?_)
    | (with_reducible refine W_scopeI ?_)
    | (with_reducible refine W_labelI ?_)
    | (with_reducible refine W_skipI ?_)
    | (with_reducible refine W_retI ?_)
    | (with_reducible refine W_exitI ?_)
    | (with_reducible refine then_normalI ?_)
    | (with_reducible refine then_retI ?_)
    | (with_reducible refine then_exitI ?_)
    | (with_reducible refine inBlock_normalI ?_)
    | (with_reducible refine inBlock_retI ?_)
    | (with_reducible refine inBlock_exitI ?_)
    | (with_reducible refine inBlock_exitN (by decide) ?_)
    | ((with_reducible refine bodyQ_normal0 ?_); (try simp only [EVB, Nat.reduceEqDiff, reduceIte]))
    | ((with_reducible refine bodyQ_normal1 ?_); (try simp only [EVB, Nat.reduceEqDiff, reduceIte]))
    | ((with_reducible refine bodyQ_normal2 ?_); (try simp only [EVB, Nat.reduceEqDiff, reduceIte]))
    | ((with_reducible refine bodyQ_normal3 ?_); (try simp only [EVB, Nat.reduceEqDiff, reduceIte]))
    | ((with_reducible refine bodyQ_normal4 ?_); (try simp only [EVB, Nat.reduceEqDiff, reduceIte]))
    | ((with_reducible refine bodyQ_ret0 ?_); (try simp only [EVB, Nat.reduceEqDiff, reduceIte]))
    | ((with_reducible refine bodyQ_ret1 ?_); (try simp only [EVB, Nat.reduceEqDiff, reduceIte]))
    | ((with_reducible refine bodyQ_ret2 ?_); (try simp only [EVB, Nat.reduceEqDiff, reduceIte]))
    | ((with_reducible refine bodyQ_ret3 ?_); (try simp only [EVB, Nat.reduceEqDiff, reduceIte]))
    | ((with_reducible refine bodyQ_ret4 ?_); (try simp only [EVB, Nat.reduceEqDiff, reduceIte]))
    | (with_reducible refine Cont.use (by assumption) ?_)
    | ((with_reducible show W _ _ (.cond _ _ _) _ _ _); refine W_condI (by simp (disch := first | ((with_reducible show isStop _ = false); rfl) | ((with_reducible show isP _ = true); rfl) | ((with_reducible show (isStop _ || isP _) = false); rfl) | assumption | (simp only [gt_some, gb_bool, gb_undef, EVB, Option.bind_some, Nat.reduceEqDiff, reduceIte, beq_self_eq_true, Bool.not_true, Bool.not_false, beq_true, beq_false]; done) | omega | (with_reducible decide) | (simp only [List.length_cons, List.length_nil, List.size_toArray, List.toList_toArray, List.all_cons, List.all_nil, Go.Proofs.YtdfgdpjlbcnkfaaDoorAbs.oneC, Bool.and_self, Go.Proofs.YtdfgdpjlbcnkfaaDoorAbs.St.next_push, Go.Proofs.YtdfgdpjlbcnkfaaDoorAbs.St.next_upd, Nat.zero_add, Nat.reduceAdd, Nat.reduceLeDiff, Nat.le_refl, Nat.zero_le] <;> omega)) only [↓DN, ↓reduceIte, UP, Int.reduceEq, Int.reduceLT, Int.reduceLE, Nat.reduceEqDiff, Nat.reduceAdd, Nat.reduceMul, Nat.reduceSub, Int.reduceToNat, Nat.reduceLeDiff, PF, isStop, isP, goInt, beq_self_eq_true, decide_true, decide_false, Int.toNat_natCast, Int.natCast_zero, nn_eq, nn_ne]; rfl) (fun ht => ?_) (fun ht => ?_) <;> (first | (simp only [Bool.true_eq_false, Bool.false_eq_true] at ht; done) | ((try simp only [Bool.not_eq_true', Bool.not_eq_false'] at ht); (try simp only [ht]); (try simp only [HTN] at ht); (try (exfalso; omega)))))
    | ((with_reducible refine W_regionI ?_); simp (disch := first | ((with_reducible show isStop _ = false); rfl) | ((with_reducible show isP _ = true); rfl) | ((with_reducible show (isStop _ || isP _) = false); rfl) | assumption | (simp only [gt_some, gb_bool, gb_undef, EVB, Option.bind_some, Nat.reduceEqDiff, reduceIte, beq_self_eq_true, Bool.not_true, Bool.not_false, beq_true, beq_false]; done) | omega | (with_reducible decide) | (simp only [List.length_cons, List.length_nil, List.size_toArray, List.toList_toArray, List.all_cons, List.all_nil, Go.Proofs.YtdfgdpjlbcnkfaaDoorAbs.oneC, Bool.and_self, Go.Proofs.YtdfgdpjlbcnkfaaDoorAbs.St.next_push, Go.Proofs.YtdfgdpjlbcnkfaaDoorAbs.St.next_upd, Nat.zero_add, Nat.reduceAdd, Nat.reduceLeDiff, Nat.le_refl, Nat.zero_le] <;> omega)) only [↓DN, ↓reduceIte, UP, Int.reduceEq, Int.reduceLT, Int.reduceLE, Nat.reduceEqDiff, Nat.reduceAdd, Nat.reduceMul, Nat.reduceSub, Int.reduceToNat, Nat.reduceLeDiff, PF, isStop, isP, goInt, beq_self_eq_true, decide_true, decide_false, Int.toNat_natCast, Int.natCast_zero, nn_eq, nn_ne])
    | ((first | (with_reducible show O _ _ _ _ _ _ _ _) | (with_reducible show OK _ _ _ _ _ _ _ _ _) | (with_reducible show OKF _ _ _ _ _ _ _ _ _ _) | (with_reducible show OKT _ _ _ _ _ _ _ _ _ _ _ _) | (with_reducible show _ ∧ _)); simp (disch := first | ((with_reducible show isStop _ = false); rfl) | ((with_reducible show isP _ = true); rfl) | ((with_reducible show (isStop _ || isP _) = false); rfl) | assumption | (simp only [gt_some, gb_bool, gb_undef, EVB, Option.bind_some, Nat.reduceEqDiff, reduceIte, beq_self_eq_true, Bool.not_true, Bool.not_false, beq_true, beq_false]; done) | omega | (with_reducible decide) | (simp only [List.length_cons, List.length_nil, List.size_toArray, List.toList_toArray, List.all_cons, List.all_nil, Go.Proofs.YtdfgdpjlbcnkfaaDoorAbs.oneC, Bool.and_self, Go.Proofs.YtdfgdpjlbcnkfaaDoorAbs.St.next_push, Go.Proofs.YtdfgdpjlbcnkfaaDoorAbs.St.next_upd, Nat.zero_add, Nat.reduceAdd, Nat.reduceLeDiff, Nat.le_refl, Nat.zero_le] <;> omega)) only [↓DN, ↓reduceIte, UP, Int.reduceEq, Int.reduceLT, Int.reduceLE, Nat.reduceEqDiff, Nat.reduceAdd, Nat.reduceMul, Nat.reduceSub, Int.reduceToNat, Nat.reduceLeDiff, PF, isStop, isP, goInt, beq_self_eq_true, decide_true, decide_false, Int.toNat_natCast, Int.natCast_zero, nn_eq, nn_ne])
    | ((with_reducible show O _ _ _ (⟨_, _, _, _, _, some _⟩ :: _) _ _ _ _); refine O_split (by simp (disch := first | ((with_reducible show isStop _ = false); rfl) | ((with_reducible show isP _ = true); rfl) | ((with_reducible show (isStop _ || isP _) = false); rfl) | assumption | (simp only [gt_some, gb_bool, gb_undef, EVB, Option.bind_some, Nat.reduceEqDiff, reduceIte, beq_self_eq_true, Bool.not_true, Bool.not_false, beq_true, beq_false]; done) | omega | (with_reducible decide) | (simp only [List.length_cons, List.length_nil, List.size_toArray, List.toList_toArray, List.all_cons, List.all_nil, Go.Proofs.YtdfgdpjlbcnkfaaDoorAbs.oneC, Bool.and_self, Go.Proofs.YtdfgdpjlbcnkfaaDoorAbs.St.next_push, Go.Proofs.YtdfgdpjlbcnkfaaDoorAbs.St.next_upd, Nat.zero_add, Nat.reduceAdd, Nat.reduceLeDiff, Nat.le_refl, Nat.zero_le] <;> omega)) only [↓DN, ↓reduceIte, UP, Int.reduceEq, Int.reduceLT, Int.reduceLE, Nat.reduceEqDiff, Nat.reduceAdd, Nat.reduceMul, Nat.reduceSub, Int.reduceToNat, Nat.reduceLeDiff, PF, isStop, isP, goInt, beq_self_eq_true, decide_true, decide_false, Int.toNat_natCast, Int.natCast_zero, nn_eq, nn_ne]; rfl) (fun ht => ?_) (fun ht => ?_) <;> (first | (simp only [Bool.true_eq_false, Bool.false_eq_true] at ht; done) | ((try simp only [Bool.not_eq_true', Bool.not_eq_false'] at ht); (try simp only [ht]); (try simp only [HTN] at ht); (try (exfalso; omega))))))
    refine O_lit0 (P := Tryd.prog) (elem := 5) (size := 1) (bytes := 1) (m := xs.length) (ys := u8v xs) u22 sz5 by5 ze5 ⟨by decide, by decide, rfl⟩ (by simp only [EVB, Nat.reduceEqDiff, reduceIte]; rfl) (by simp only [EVB, Nat.reduceEqDiff, reduceIte]; exact asrc_own (own_push hO) u22) (by omega) ⟨hO.1, hO.2.1⟩ (by omega) fun v1 S1 hO1 hKp hB => ?_
    repeat' (first
    | (with_reducible refine W_pushC fun K hK => ?_)
    | (with_reducible refine W_blockI ?_)
    | (with_reducible refine W_scopeI ?_)
    | (with_reducible refine W_labelI ?_)
    | (with_reducible refine W_skipI ?_)
    | (with_reducible refine W_retI ?_)
    | (with_reducible refine W_exitI ?_)
    | (with_reducible refine then_normalI ?_)
    | (with_reducible refine then_retI ?_)
    | (with_reducible refine then_exitI ?_)
    | (with_reducible refine inBlock_normalI ?_)
    | (with_reducible refine inBlock_retI ?_)
    | (with_reducible refine inBlock_exitI ?_)
    | (with_reducible refine inBlock_exitN (by decide) ?_)
    | ((with_reducible refine bodyQ_normal0 ?_); (try simp only [EVB, Nat.reduceEqDiff, reduceIte]))
    | ((with_reducible refine bodyQ_normal1 ?_); (try simp only [EVB, Nat.reduceEqDiff, reduceIte]))
    | ((with_reducible refine bodyQ_normal2 ?_); (try simp only [EVB, Nat.reduceEqDiff, reduceIte]))
    | ((with_reducible refine bodyQ_normal3 ?_); (try simp only [EVB, Nat.reduceEqDiff, reduceIte]))
    | ((with_reducible refine bodyQ_normal4 ?_); (try simp only [EVB, Nat.reduceEqDiff, reduceIte]))
    | ((with_reducible refine bodyQ_ret0 ?_); (try simp only [EVB, Nat.reduceEqDiff, reduceIte]))
    | ((with_reducible refine bodyQ_ret1 ?_); (try simp only [EVB, Nat.reduceEqDiff, reduceIte]))
    | ((with_reducible refine bodyQ_ret2 ?_); (try simp only [EVB, Nat.reduceEqDiff, reduceIte]))
    | ((with_reducible refine bodyQ_ret3 ?_); (try simp only [EVB, Nat.reduceEqDiff, reduceIte]))
    | ((with_reducible refine bodyQ_ret4 ?_); (try simp only [EVB, Nat.reduceEqDiff, reduceIte]))
    | (with_reducible refine Cont.use (by assumption) ?_)
    | ((with_reducible show W _ _ (.cond _ _ _) _ _ _); refine W_condI (by simp (disch := first | ((with_reducible show isStop _ = false); rfl) | ((with_reducible show isP _ = true); rfl) | ((with_reducible show (isStop _ || isP _) = false); rfl) | assumption | (simp only [gt_some, gb_bool, gb_undef, EVB, Option.bind_some, Nat.reduceEqDiff, reduceIte, beq_self_eq_true, Bool.not_true, Bool.not_false, beq_true, beq_false]; done) | omega | (with_reducible decide) | (simp only [List.length_cons, List.length_nil, List.size_toArray, List.toList_toArray, List.all_cons, List.all_nil, Go.Proofs.YtdfgdpjlbcnkfaaDoorAbs.oneC, Bool.and_self, Go.Proofs.YtdfgdpjlbcnkfaaDoorAbs.St.next_push, Go.Proofs.YtdfgdpjlbcnkfaaDoorAbs.St.next_upd, Nat.zero_add, Nat.reduceAdd, Nat.reduceLeDiff, Nat.le_refl, Nat.zero_le] <;> omega)) only [↓DN, ↓reduceIte, UP, Int.reduceEq, Int.reduceLT, Int.reduceLE, Nat.reduceEqDiff, Nat.reduceAdd, Nat.reduceMul, Nat.reduceSub, Int.reduceToNat, Nat.reduceLeDiff, PF, isStop, isP, goInt, beq_self_eq_true, decide_true, decide_false, Int.toNat_natCast, Int.natCast_zero, nn_eq, nn_ne]; rfl) (fun ht => ?_) (fun ht => ?_) <;> (first | (simp only [Bool.true_eq_false, Bool.false_eq_true] at ht; done) | ((try simp only [Bool.not_eq_true', Bool.not_eq_false'] at ht); (try simp only [ht]); (try simp only [HTN] at ht); (try (exfalso; omega)))))
    | ((with_reducible refine W_regionI ?_); simp (disch := first | ((with_reducible show isStop _ = false); rfl) | ((with_reducible show isP _ = true); rfl) | ((with_reducible show (isStop _ || isP _) = false); rfl) | assumption | (simp only [gt_some, gb_bool, gb_undef, EVB, Option.bind_some, Nat.reduceEqDiff, reduceIte, beq_self_eq_true, Bool.not_true, Bool.not_false, beq_true, beq_false]; done) | omega | (with_reducible decide) | (simp only [List.length_cons, List.length_nil, List.size_toArray, List.toList_toArray, List.all_cons, List.all_nil, Go.Proofs.YtdfgdpjlbcnkfaaDoorAbs.oneC, Bool.and_self, Go.Proofs.YtdfgdpjlbcnkfaaDoorAbs.St.next_push, Go.Proofs.YtdfgdpjlbcnkfaaDoorAbs.St.next_upd, Nat.zero_add, Nat.reduceAdd, Nat.reduceLeDiff, Nat.le_refl, Nat.zero_le] <;> omega)) only [↓DN, ↓reduceIte, UP, Int.reduceEq, Int.reduceLT, Int.reduceLE, Nat.reduceEqDiff, Nat.reduceAdd, Nat.reduceMul, Nat.reduceSub, Int.reduceToNat, Nat.reduceLeDiff, PF, isStop, isP, goInt, beq_self_eq_true, decide_true, decide_false, Int.toNat_natCast, Int.natCast_zero, nn_eq, nn_ne])
    | ((first | (with_reducible show O _ _ _ _ _ _ _ _) | (with_reducible show OK _ _ _ _ _ _ _ _ _) | (with_reducible show OKF _ _ _ _ _ _ _ _ _ _) | (with_reducible show OKT _ _ _ _ _ _ _ _ _ _ _ _) | (with_reducible show _ ∧ _)); simp (disch := first | ((with_reducible show isStop _ = false); rfl) | ((with_reducible show isP _ = true); rfl) | ((with_reducible show (isStop _ || isP _) = false); rfl) | assumption | (simp only [gt_some, gb_bool, gb_undef, EVB, Option.bind_some, Nat.reduceEqDiff, reduceIte, beq_self_eq_true, Bool.not_true, Bool.not_false, beq_true, beq_false]; done) | omega | (with_reducible decide) | (simp only [List.length_cons, List.length_nil, List.size_toArray, List.toList_toArray, List.all_cons, List.all_nil, Go.Proofs.YtdfgdpjlbcnkfaaDoorAbs.oneC, Bool.and_self, Go.Proofs.YtdfgdpjlbcnkfaaDoorAbs.St.next_push, Go.Proofs.YtdfgdpjlbcnkfaaDoorAbs.St.next_upd, Nat.zero_add, Nat.reduceAdd, Nat.reduceLeDiff, Nat.le_refl, Nat.zero_le] <;> omega)) only [↓DN, ↓reduceIte, UP, Int.reduceEq, Int.reduceLT, Int.reduceLE, Nat.reduceEqDiff, Nat.reduceAdd, Nat.reduceMul, Nat.reduceSub, Int.reduceToNat, Nat.reduceLeDiff, PF, isStop, isP, goInt, beq_self_eq_true, decide_true, decide_false, Int.toNat_natCast, Int.natCast_zero, nn_eq, nn_ne])
    | ((with_reducible show O _ _ _ (⟨_, _, _, _, _, some _⟩ :: _) _ _ _ _); refine O_split (by simp (disch := first | ((with_reducible show isStop _ = false); rfl) | ((with_reducible show isP _ = true); rfl) | ((with_reducible show (isStop _ || isP _) = false); rfl) | assumption | (simp only [gt_some, gb_bool, gb_undef, EVB, Option.bind_some, Nat.reduceEqDiff, reduceIte, beq_self_eq_true, Bool.not_true, Bool.not_false, beq_true, beq_false]; done) | omega | (with_reducible decide) | (simp only [List.length_cons, List.length_nil, List.size_toArray, List.toList_toArray, List.all_cons, List.all_nil, Go.Proofs.YtdfgdpjlbcnkfaaDoorAbs.oneC, Bool.and_self, Go.Proofs.YtdfgdpjlbcnkfaaDoorAbs.St.next_push, Go.Proofs.YtdfgdpjlbcnkfaaDoorAbs.St.next_upd, Nat.zero_add, Nat.reduceAdd, Nat.reduceLeDiff, Nat.le_refl, Nat.zero_le] <;> omega)) only [↓DN, ↓reduceIte, UP, Int.reduceEq, Int.reduceLT, Int.reduceLE, Nat.reduceEqDiff, Nat.reduceAdd, Nat.reduceMul, Nat.reduceSub, Int.reduceToNat, Nat.reduceLeDiff, PF, isStop, isP, goInt, beq_self_eq_true, decide_true, decide_false, Int.toNat_natCast, Int.natCast_zero, nn_eq, nn_ne]; rfl) (fun ht => ?_) (fun ht => ?_) <;> (first | (simp only [Bool.true_eq_false, Bool.false_eq_true] at ht; done) | ((try simp only [Bool.not_eq_true', Bool.not_eq_false'] at ht); (try simp only [ht]); (try simp only [HTN] at ht); (try (exfalso; omega)))))
    | (exact hQ _ _ hO1 ((Kept.push _ none).trans hKp) (fun i hi => Nat.le_trans (Nat.le_succ _) (hB i hi))))
/-- A reader of its own. -/
theorem Clone_C (h : HI I) {b m : Nat} {r : PRd} {tv lv : Value} (hR : Rd S b r tv lv m) (htn : r.text.length ≤ 1048576) (hl : r.trailers.length ≤ 1048576)
    (hQ : ∀ S' bc tv' lv' m', Rd S' bc r tv' lv' m' → Kept S S' none → S.next ≤ bc → (∀ i, blkOf tv' = some i → S.next ≤ i) → (∀ i, blkOf lv' = some i → S.next ≤ i) → Q (.pointer (some ⟨bc, 0, some 11⟩)) S') :
    C Tryd.prog I 19 #[.pointer (some ⟨b, 0, some 11⟩)] S Q := by
  refine C_body (rs := [.tmp 2]) (h.no 19 (by decide)) Tryd.func19 rfl rfl ok19 ?_
  obtain ⟨ta, tc, rfl⟩ := own_slice hR.text
  obtain ⟨la, lc, rfl⟩ := own_slice hR.trl
  have hb := hR.cell; have hm := hR.hm; have hnb := hR.hn
  simp only [CR.as, CR.cells] at hb
  have ki := ki24
  obtain ⟨u22, sz5, u5, u9, u3, u29, u34, u33, sz3, u4, u41, sz66, u46, sz28, u47, u52, sz22, sz62, sz24, sz59, u59, sz60, u60, sz41, sz58, u58, sz73, sz34, sz4, sz9, sz83, u88, sz86, u112, sz118, u118, u2, sz126, u126, u21, sz130, u130, u139, u140, sz141, u141, u145, u148, sz147, u154, u155⟩ := UF
  have hw1 : ∀ B B2 : Blk, Own 5 1 ((S.push B).upd S.next B2) (.slice ta r.text.length tc) r.text.length (u8v r.text) := fun B B2 => own_upd (own_push hR.text) (fun e => absurd (own_lt hR.text e) (by omega))
  rcases he : r.err with _ | ec
  all_goals
    rw [he] at hb
    simp only [errW] at hb
    repeat' (first
    | (with_reducible refine W_pushC fun K hK => ?_)
    | (with_reducible refine W_blockI ?_)
    | (with_reducible refine W_scopeI ?_)
    | (with_reducible refine W_labelI ?_)
    | (with_reducible refine W_skipI ?_)
    | (with_reducible refine W_retI ?_)
    | (with_reducible refine W_exitI ?_)
    | (with_reducible refine then_normalI ?_)
    | (with_reducible refine then_retI ?_)
    | (with_reducible refine then_exitI ?_)
    | (with_reducible refine inBlock_normalI ?_)
    | (with_reducible refine inBlock_retI ?_)
    | (with_reducible refine inBlock_exitI ?_)
    | (with_reducible refine inBlock_exitN (by decide) ?_)
    | ((with_reducible refine bodyQ_normal0 ?_); (try simp only [EVB, Nat.reduceEqDiff, reduceIte]))
    | ((with_reducible refine bodyQ_normal1 ?_); (try simp only [EVB, Nat.reduceEqDiff, reduceIte]))
    | ((with_reducible refine bodyQ_normal2 ?_); (try simp only [EVB, Nat.reduceEqDiff, reduceIte]))
    | ((with_reducible refine bodyQ_normal3 ?_); (try simp only [EVB, Nat.reduceEqDiff, reduceIte]))
    | ((with_reducible refine bodyQ_normal4 ?_); (try simp only [EVB, Nat.reduceEqDiff, reduceIte]))
    | ((with_reducible refine bodyQ_ret0 ?_); (try simp only [EVB, Nat.reduceEqDiff, reduceIte]))
    | ((with_reducible refine bodyQ_ret1 ?_); (try simp only [EVB, Nat.reduceEqDiff, reduceIte]))
    | ((with_reducible refine bodyQ_ret2 ?_); (try simp only [EVB, Nat.reduceEqDiff, reduceIte]))
    | ((with_reducible refine bodyQ_ret3 ?_); (try simp only [EVB, Nat.reduceEqDiff, reduceIte]))
    | ((with_reducible refine bodyQ_ret4 ?_); (try simp only [EVB, Nat.reduceEqDiff, reduceIte]))
    | ((with_reducible show C _ _ _ _ _ _); first | (refine CloneB_C h (hw1 _ _) htn (fun v1 S1 hO1 hK1 hN1 => ?_)))
    | (with_reducible refine Cont.use (by assumption) ?_)
    | ((with_reducible show W _ _ (.cond _ _ _) _ _ _); refine W_condI (by simp (disch := first | ((with_reducible show isStop _ = false); rfl) | ((with_reducible show isP _ = true); rfl) | ((with_reducible show (isStop _ || isP _) = false); rfl) | assumption | (simp only [gt_some, gb_bool, gb_undef, EVB, Option.bind_some, Nat.reduceEqDiff, reduceIte, beq_self_eq_true, Bool.not_true, Bool.not_false, beq_true, beq_false]; done) | omega | (with_reducible decide) | (simp only [List.length_cons, List.length_nil, List.size_toArray, List.toList_toArray, List.all_cons, List.all_nil, Go.Proofs.YtdfgdpjlbcnkfaaDoorAbs.oneC, Bool.and_self, Go.Proofs.YtdfgdpjlbcnkfaaDoorAbs.St.next_push, Go.Proofs.YtdfgdpjlbcnkfaaDoorAbs.St.next_upd, Nat.zero_add, Nat.reduceAdd, Nat.reduceLeDiff, Nat.le_refl, Nat.zero_le] <;> omega)) only [↓DN, ↓reduceIte, UP, Int.reduceEq, Int.reduceLT, Int.reduceLE, Nat.reduceEqDiff, Nat.reduceAdd, Nat.reduceMul, Nat.reduceSub, Int.reduceToNat, Nat.reduceLeDiff, PF, isStop, isP, goInt, beq_self_eq_true, decide_true, decide_false, Int.toNat_natCast, Int.natCast_zero, nn_eq, nn_ne, hb]; rfl) (fun ht => ?_) (fun ht => ?_) <;> (first | (simp only [Bool.true_eq_false, Bool.false_eq_true] at ht; done) | ((try simp only [Bool.not_eq_true', Bool.not_eq_false'] at ht); (try simp only [ht]); (try simp only [HTN] at ht); (try (exfalso; omega)))))
    | ((with_reducible show W _ _ (.region _ _ true) _ _ _); first | (refine W_drawn (fl := [true, true, true, true, true]) (by kernel_rfl) ?_) | (refine W_drawn (fl := [true, true, true, true, true, true]) (by kernel_rfl) ?_))
    | ((with_reducible refine W_regionI ?_); simp (disch := first | ((with_reducible show isStop _ = false); rfl) | ((with_reducible show isP _ = true); rfl) | ((with_reducible show (isStop _ || isP _) = false); rfl) | assumption | (simp only [gt_some, gb_bool, gb_undef, EVB, Option.bind_some, Nat.reduceEqDiff, reduceIte, beq_self_eq_true, Bool.not_true, Bool.not_false, beq_true, beq_false]; done) | omega | (with_reducible decide) | (simp only [List.length_cons, List.length_nil, List.size_toArray, List.toList_toArray, List.all_cons, List.all_nil, Go.Proofs.YtdfgdpjlbcnkfaaDoorAbs.oneC, Bool.and_self, Go.Proofs.YtdfgdpjlbcnkfaaDoorAbs.St.next_push, Go.Proofs.YtdfgdpjlbcnkfaaDoorAbs.St.next_upd, Nat.zero_add, Nat.reduceAdd, Nat.reduceLeDiff, Nat.le_refl, Nat.zero_le] <;> omega)) only [↓DN, ↓reduceIte, UP, Int.reduceEq, Int.reduceLT, Int.reduceLE, Nat.reduceEqDiff, Nat.reduceAdd, Nat.reduceMul, Nat.reduceSub, Int.reduceToNat, Nat.reduceLeDiff, PF, isStop, isP, goInt, beq_self_eq_true, decide_true, decide_false, Int.toNat_natCast, Int.natCast_zero, nn_eq, nn_ne, hb])
    | ((first | (with_reducible show O _ _ _ _ _ _ _ _) | (with_reducible show OK _ _ _ _ _ _ _ _ _) | (with_reducible show OKF _ _ _ _ _ _ _ _ _ _) | (with_reducible show OKT _ _ _ _ _ _ _ _ _ _ _ _) | (with_reducible show _ ∧ _)); simp (disch := first | ((with_reducible show isStop _ = false); rfl) | ((with_reducible show isP _ = true); rfl) | ((with_reducible show (isStop _ || isP _) = false); rfl) | assumption | (simp only [gt_some, gb_bool, gb_undef, EVB, Option.bind_some, Nat.reduceEqDiff, reduceIte, beq_self_eq_true, Bool.not_true, Bool.not_false, beq_true, beq_false]; done) | omega | (with_reducible decide) | (simp only [List.length_cons, List.length_nil, List.size_toArray, List.toList_toArray, List.all_cons, List.all_nil, Go.Proofs.YtdfgdpjlbcnkfaaDoorAbs.oneC, Bool.and_self, Go.Proofs.YtdfgdpjlbcnkfaaDoorAbs.St.next_push, Go.Proofs.YtdfgdpjlbcnkfaaDoorAbs.St.next_upd, Nat.zero_add, Nat.reduceAdd, Nat.reduceLeDiff, Nat.le_refl, Nat.zero_le] <;> omega)) only [↓DN, ↓reduceIte, UP, Int.reduceEq, Int.reduceLT, Int.reduceLE, Nat.reduceEqDiff, Nat.reduceAdd, Nat.reduceMul, Nat.reduceSub, Int.reduceToNat, Nat.reduceLeDiff, PF, isStop, isP, goInt, beq_self_eq_true, decide_true, decide_false, Int.toNat_natCast, Int.natCast_zero, nn_eq, nn_ne, hb])
    | ((with_reducible show O _ _ _ (⟨_, _, _, _, _, some _⟩ :: _) _ _ _ _); refine O_split (by simp (disch := first | ((with_reducible show isStop _ = false); rfl) | ((with_reducible show isP _ = true); rfl) | ((with_reducible show (isStop _ || isP _) = false); rfl) | assumption | (simp only [gt_some, gb_bool, gb_undef, EVB, Option.bind_some, Nat.reduceEqDiff, reduceIte, beq_self_eq_true, Bool.not_true, Bool.not_false, beq_true, beq_false]; done) | omega | (with_reducible decide) | (simp only [List.length_cons, List.length_nil, List.size_toArray, List.toList_toArray, List.all_cons, List.all_nil, Go.Proofs.YtdfgdpjlbcnkfaaDoorAbs.oneC, Bool.and_self, Go.Proofs.YtdfgdpjlbcnkfaaDoorAbs.St.next_push, Go.Proofs.YtdfgdpjlbcnkfaaDoorAbs.St.next_upd, Nat.zero_add, Nat.reduceAdd, Nat.reduceLeDiff, Nat.le_refl, Nat.zero_le] <;> omega)) only [↓DN, ↓reduceIte, UP, Int.reduceEq, Int.reduceLT, Int.reduceLE, Nat.reduceEqDiff, Nat.reduceAdd, Nat.reduceMul, Nat.reduceSub, Int.reduceToNat, Nat.reduceLeDiff, PF, isStop, isP, goInt, beq_self_eq_true, decide_true, decide_false, Int.toNat_natCast, Int.natCast_zero, nn_eq, nn_ne, hb]; rfl) (fun ht => ?_) (fun ht => ?_) <;> (first | (simp only [Bool.true_eq_false, Bool.false_eq_true] at ht; done) | ((try simp only [Bool.not_eq_true', Bool.not_eq_false'] at ht); (try simp only [ht]); (try simp only [HTN] at ht); (try (exfalso; omega))))))
    generalize hS0 : St.upd (St.push _ _) _ _ = S0 at *
    have k0 : Kept S S0 none := by rw [← hS0]; exact (Kept.push _ none).upd (Nat.le_refl _) _
    have n0 : S.next < S0.next := by rw [← hS0]; exact Nat.lt_succ_self _
    have g0 := congrArg (fun s => s.get S.next) hS0
    rw [St.get_upd_self] at g0
    replace g0 := g0.symm
    have hb1 := (hK1.2 b (Nat.lt_of_lt_of_le hnb k0.1) (by simp)).trans ((k0.2 b hnb (by simp)).trans hb)
    have g1 := (hK1.2 S.next n0 (by simp)).trans g0
    have n1 : S.next < S1.next := Nat.lt_of_lt_of_le n0 hK1.1
    obtain ⟨ta1, tc1, rfl⟩ := own_slice hO1
    have hne1 : b ≠ S.next := by omega
    have hl1 : ∀ B : Blk, Own 66 2 (S1.upd S.next B) (.slice la r.trailers.length lc) r.trailers.length (fldv r.trailers) := fun B => own_upd ((hR.trl.kept k0 (.inl rfl)).kept hK1 (.inl rfl)) (fun e => absurd (own_lt hR.trl e) (by omega))
    repeat' (first
    | (with_reducible refine W_pushC fun K hK => ?_)
    | (with_reducible refine W_blockI ?_)
    | (with_reducible refine W_scopeI ?_)
    | (with_reducible refine W_labelI ?_)
    | (with_reducible refine W_skipI ?_)
    | (with_reducible refine W_retI ?_)
    | (with_reducible refine W_exitI ?_)
    | (with_reducible refine then_normalI ?_)
    | (with_reducible refine then_retI ?_)
    | (with_reducible refine then_exitI ?_)
    | (with_reducible refine inBlock_normalI ?_)
    | (with_reducible refine inBlock_retI ?_)
    | (with_reducible refine inBlock_exitI ?_)
    | (with_reducible refine inBlock_exitN (by decide) ?_)
    | ((with_reducible refine bodyQ_normal0 ?_); (try simp only [EVB, Nat.reduceEqDiff, reduceIte]))
    | ((with_reducible refine bodyQ_normal1 ?_); (try simp only [EVB, Nat.reduceEqDiff, reduceIte]))
    | ((with_reducible refine bodyQ_normal2 ?_); (try simp only [EVB, Nat.reduceEqDiff, reduceIte]))
    | ((with_reducible refine bodyQ_normal3 ?_); (try simp only [EVB, Nat.reduceEqDiff, reduceIte]))
    | ((with_reducible refine bodyQ_normal4 ?_); (try simp only [EVB, Nat.reduceEqDiff, reduceIte]))
    | ((with_reducible refine bodyQ_ret0 ?_); (try simp only [EVB, Nat.reduceEqDiff, reduceIte]))
    | ((with_reducible refine bodyQ_ret1 ?_); (try simp only [EVB, Nat.reduceEqDiff, reduceIte]))
    | ((with_reducible refine bodyQ_ret2 ?_); (try simp only [EVB, Nat.reduceEqDiff, reduceIte]))
    | ((with_reducible refine bodyQ_ret3 ?_); (try simp only [EVB, Nat.reduceEqDiff, reduceIte]))
    | ((with_reducible refine bodyQ_ret4 ?_); (try simp only [EVB, Nat.reduceEqDiff, reduceIte]))
    | ((with_reducible show C _ _ _ _ _ _); first | (refine CloneF_C h (hl1 _) hl (fun v2 S2 hO2 hK2 hN2 => ?_)))
    | (with_reducible refine Cont.use (by assumption) ?_)
    | ((with_reducible show W _ _ (.cond _ _ _) _ _ _); refine W_condI (by simp (disch := first | ((with_reducible show isStop _ = false); rfl) | ((with_reducible show isP _ = true); rfl) | ((with_reducible show (isStop _ || isP _) = false); rfl) | assumption | (simp only [gt_some, gb_bool, gb_undef, EVB, Option.bind_some, Nat.reduceEqDiff, reduceIte, beq_self_eq_true, Bool.not_true, Bool.not_false, beq_true, beq_false]; done) | omega | (with_reducible decide) | (simp only [List.length_cons, List.length_nil, List.size_toArray, List.toList_toArray, List.all_cons, List.all_nil, Go.Proofs.YtdfgdpjlbcnkfaaDoorAbs.oneC, Bool.and_self, Go.Proofs.YtdfgdpjlbcnkfaaDoorAbs.St.next_push, Go.Proofs.YtdfgdpjlbcnkfaaDoorAbs.St.next_upd, Nat.zero_add, Nat.reduceAdd, Nat.reduceLeDiff, Nat.le_refl, Nat.zero_le] <;> omega)) only [↓DN, ↓reduceIte, UP, Int.reduceEq, Int.reduceLT, Int.reduceLE, Nat.reduceEqDiff, Nat.reduceAdd, Nat.reduceMul, Nat.reduceSub, Int.reduceToNat, Nat.reduceLeDiff, PF, isStop, isP, goInt, beq_self_eq_true, decide_true, decide_false, Int.toNat_natCast, Int.natCast_zero, nn_eq, nn_ne, hb1, g1, hne1]; rfl) (fun ht => ?_) (fun ht => ?_) <;> (first | (simp only [Bool.true_eq_false, Bool.false_eq_true] at ht; done) | ((try simp only [Bool.not_eq_true', Bool.not_eq_false'] at ht); (try simp only [ht]); (try simp only [HTN] at ht); (try (exfalso; omega)))))
    | ((with_reducible show W _ _ (.region _ _ true) _ _ _); first | (refine W_drawn (fl := [true, true, true, true, true]) (by kernel_rfl) ?_) | (refine W_drawn (fl := [true, true, true, true, true, true]) (by kernel_rfl) ?_))
    | ((with_reducible refine W_regionI ?_); simp (disch := first | ((with_reducible show isStop _ = false); rfl) | ((with_reducible show isP _ = true); rfl) | ((with_reducible show (isStop _ || isP _) = false); rfl) | assumption | (simp only [gt_some, gb_bool, gb_undef, EVB, Option.bind_some, Nat.reduceEqDiff, reduceIte, beq_self_eq_true, Bool.not_true, Bool.not_false, beq_true, beq_false]; done) | omega | (with_reducible decide) | (simp only [List.length_cons, List.length_nil, List.size_toArray, List.toList_toArray, List.all_cons, List.all_nil, Go.Proofs.YtdfgdpjlbcnkfaaDoorAbs.oneC, Bool.and_self, Go.Proofs.YtdfgdpjlbcnkfaaDoorAbs.St.next_push, Go.Proofs.YtdfgdpjlbcnkfaaDoorAbs.St.next_upd, Nat.zero_add, Nat.reduceAdd, Nat.reduceLeDiff, Nat.le_refl, Nat.zero_le] <;> omega)) only [↓DN, ↓reduceIte, UP, Int.reduceEq, Int.reduceLT, Int.reduceLE, Nat.reduceEqDiff, Nat.reduceAdd, Nat.reduceMul, Nat.reduceSub, Int.reduceToNat, Nat.reduceLeDiff, PF, isStop, isP, goInt, beq_self_eq_true, decide_true, decide_false, Int.toNat_natCast, Int.natCast_zero, nn_eq, nn_ne, hb1, g1, hne1])
    | ((first | (with_reducible show O _ _ _ _ _ _ _ _) | (with_reducible show OK _ _ _ _ _ _ _ _ _) | (with_reducible show OKF _ _ _ _ _ _ _ _ _ _) | (with_reducible show OKT _ _ _ _ _ _ _ _ _ _ _ _) | (with_reducible show _ ∧ _)); simp (disch := first | ((with_reducible show isStop _ = false); rfl) | ((with_reducible show isP _ = true); rfl) | ((with_reducible show (isStop _ || isP _) = false); rfl) | assumption | (simp only [gt_some, gb_bool, gb_undef, EVB, Option.bind_some, Nat.reduceEqDiff, reduceIte, beq_self_eq_true, Bool.not_true, Bool.not_false, beq_true, beq_false]; done) | omega | (with_reducible decide) | (simp only [List.length_cons, List.length_nil, List.size_toArray, List.toList_toArray, List.all_cons, List.all_nil, Go.Proofs.YtdfgdpjlbcnkfaaDoorAbs.oneC, Bool.and_self, Go.Proofs.YtdfgdpjlbcnkfaaDoorAbs.St.next_push, Go.Proofs.YtdfgdpjlbcnkfaaDoorAbs.St.next_upd, Nat.zero_add, Nat.reduceAdd, Nat.reduceLeDiff, Nat.le_refl, Nat.zero_le] <;> omega)) only [↓DN, ↓reduceIte, UP, Int.reduceEq, Int.reduceLT, Int.reduceLE, Nat.reduceEqDiff, Nat.reduceAdd, Nat.reduceMul, Nat.reduceSub, Int.reduceToNat, Nat.reduceLeDiff, PF, isStop, isP, goInt, beq_self_eq_true, decide_true, decide_false, Int.toNat_natCast, Int.natCast_zero, nn_eq, nn_ne, hb1, g1, hne1])
    | ((with_reducible show O _ _ _ (⟨_, _, _, _, _, some _⟩ :: _) _ _ _ _); refine O_split (by simp (disch := first | ((with_reducible show isStop _ = false); rfl) | ((with_reducible show isP _ = true); rfl) | ((with_reducible show (isStop _ || isP _) = false); rfl) | assumption | (simp only [gt_some, gb_bool, gb_undef, EVB, Option.bind_some, Nat.reduceEqDiff, reduceIte, beq_self_eq_true, Bool.not_true, Bool.not_false, beq_true, beq_false]; done) | omega | (with_reducible decide) | (simp only [List.length_cons, List.length_nil, List.size_toArray, List.toList_toArray, List.all_cons, List.all_nil, Go.Proofs.YtdfgdpjlbcnkfaaDoorAbs.oneC, Bool.and_self, Go.Proofs.YtdfgdpjlbcnkfaaDoorAbs.St.next_push, Go.Proofs.YtdfgdpjlbcnkfaaDoorAbs.St.next_upd, Nat.zero_add, Nat.reduceAdd, Nat.reduceLeDiff, Nat.le_refl, Nat.zero_le] <;> omega)) only [↓DN, ↓reduceIte, UP, Int.reduceEq, Int.reduceLT, Int.reduceLE, Nat.reduceEqDiff, Nat.reduceAdd, Nat.reduceMul, Nat.reduceSub, Int.reduceToNat, Nat.reduceLeDiff, PF, isStop, isP, goInt, beq_self_eq_true, decide_true, decide_false, Int.toNat_natCast, Int.natCast_zero, nn_eq, nn_ne, hb1, g1, hne1]; rfl) (fun ht => ?_) (fun ht => ?_) <;> (first | (simp only [Bool.true_eq_false, Bool.false_eq_true] at ht; done) | ((try simp only [Bool.not_eq_true', Bool.not_eq_false'] at ht); (try simp only [ht]); (try simp only [HTN] at ht); (try (exfalso; omega))))))
    have n2 : S.next < S2.next := Nat.lt_of_lt_of_le n1 hK2.1
    have g2 := (hK2.2 S.next n1 (by simp)).trans (St.get_upd_self _ _ _)
    have kk : Kept S S2 none := ((k0.trans hK1).upd (Nat.le_refl _) _).trans hK2
    obtain ⟨la2, lc2, rfl⟩ := own_slice hO2
    have hO1' := (own_upd (b := S.next) (B := ⟨_, 62, true, 11⟩) hO1 (fun e => by have := hN1 _ e; omega)).kept hK2 (.inl rfl)
    repeat' (first
    | (with_reducible refine W_pushC fun K hK => ?_)
    | (with_reducible refine W_blockI ?_)
    | (with_reducible refine W_scopeI ?_)
    | (with_reducible refine W_labelI ?_)
    | (with_reducible refine W_skipI ?_)
    | (with_reducible refine W_retI ?_)
    | (with_reducible refine W_exitI ?_)
    | (with_reducible refine then_normalI ?_)
    | (with_reducible refine then_retI ?_)
    | (with_reducible refine then_exitI ?_)
    | (with_reducible refine inBlock_normalI ?_)
    | (with_reducible refine inBlock_retI ?_)
    | (with_reducible refine inBlock_exitI ?_)
    | (with_reducible refine inBlock_exitN (by decide) ?_)
    | ((with_reducible refine bodyQ_normal0 ?_); (try simp only [EVB, Nat.reduceEqDiff, reduceIte]))
    | ((with_reducible refine bodyQ_normal1 ?_); (try simp only [EVB, Nat.reduceEqDiff, reduceIte]))
    | ((with_reducible refine bodyQ_normal2 ?_); (try simp only [EVB, Nat.reduceEqDiff, reduceIte]))
    | ((with_reducible refine bodyQ_normal3 ?_); (try simp only [EVB, Nat.reduceEqDiff, reduceIte]))
    | ((with_reducible refine bodyQ_normal4 ?_); (try simp only [EVB, Nat.reduceEqDiff, reduceIte]))
    | ((with_reducible refine bodyQ_ret0 ?_); (try simp only [EVB, Nat.reduceEqDiff, reduceIte]))
    | ((with_reducible refine bodyQ_ret1 ?_); (try simp only [EVB, Nat.reduceEqDiff, reduceIte]))
    | ((with_reducible refine bodyQ_ret2 ?_); (try simp only [EVB, Nat.reduceEqDiff, reduceIte]))
    | ((with_reducible refine bodyQ_ret3 ?_); (try simp only [EVB, Nat.reduceEqDiff, reduceIte]))
    | ((with_reducible refine bodyQ_ret4 ?_); (try simp only [EVB, Nat.reduceEqDiff, reduceIte]))
    | (with_reducible refine Cont.use (by assumption) ?_)
    | ((with_reducible show W _ _ (.cond _ _ _) _ _ _); refine W_condI (by simp (disch := first | ((with_reducible show isStop _ = false); rfl) | ((with_reducible show isP _ = true); rfl) | ((with_reducible show (isStop _ || isP _) = false); rfl) | assumption | (simp only [gt_some, gb_bool, gb_undef, EVB, Option.bind_some, Nat.reduceEqDiff, reduceIte, beq_self_eq_true, Bool.not_true, Bool.not_false, beq_true, beq_false]; done) | omega | (with_reducible decide) | (simp only [List.length_cons, List.length_nil, List.size_toArray, List.toList_toArray, List.all_cons, List.all_nil, Go.Proofs.YtdfgdpjlbcnkfaaDoorAbs.oneC, Bool.and_self, Go.Proofs.YtdfgdpjlbcnkfaaDoorAbs.St.next_push, Go.Proofs.YtdfgdpjlbcnkfaaDoorAbs.St.next_upd, Nat.zero_add, Nat.reduceAdd, Nat.reduceLeDiff, Nat.le_refl, Nat.zero_le] <;> omega)) only [↓DN, ↓reduceIte, UP, Int.reduceEq, Int.reduceLT, Int.reduceLE, Nat.reduceEqDiff, Nat.reduceAdd, Nat.reduceMul, Nat.reduceSub, Int.reduceToNat, Nat.reduceLeDiff, PF, isStop, isP, goInt, beq_self_eq_true, decide_true, decide_false, Int.toNat_natCast, Int.natCast_zero, nn_eq, nn_ne, g2]; rfl) (fun ht => ?_) (fun ht => ?_) <;> (first | (simp only [Bool.true_eq_false, Bool.false_eq_true] at ht; done) | ((try simp only [Bool.not_eq_true', Bool.not_eq_false'] at ht); (try simp only [ht]); (try simp only [HTN] at ht); (try (exfalso; omega)))))
    | ((with_reducible show W _ _ (.region _ _ true) _ _ _); first | (refine W_drawn (fl := [true, true, true, true, true]) (by kernel_rfl) ?_) | (refine W_drawn (fl := [true, true, true, true, true, true]) (by kernel_rfl) ?_))
    | ((with_reducible refine W_regionI ?_); simp (disch := first | ((with_reducible show isStop _ = false); rfl) | ((with_reducible show isP _ = true); rfl) | ((with_reducible show (isStop _ || isP _) = false); rfl) | assumption | (simp only [gt_some, gb_bool, gb_undef, EVB, Option.bind_some, Nat.reduceEqDiff, reduceIte, beq_self_eq_true, Bool.not_true, Bool.not_false, beq_true, beq_false]; done) | omega | (with_reducible decide) | (simp only [List.length_cons, List.length_nil, List.size_toArray, List.toList_toArray, List.all_cons, List.all_nil, Go.Proofs.YtdfgdpjlbcnkfaaDoorAbs.oneC, Bool.and_self, Go.Proofs.YtdfgdpjlbcnkfaaDoorAbs.St.next_push, Go.Proofs.YtdfgdpjlbcnkfaaDoorAbs.St.next_upd, Nat.zero_add, Nat.reduceAdd, Nat.reduceLeDiff, Nat.le_refl, Nat.zero_le] <;> omega)) only [↓DN, ↓reduceIte, UP, Int.reduceEq, Int.reduceLT, Int.reduceLE, Nat.reduceEqDiff, Nat.reduceAdd, Nat.reduceMul, Nat.reduceSub, Int.reduceToNat, Nat.reduceLeDiff, PF, isStop, isP, goInt, beq_self_eq_true, decide_true, decide_false, Int.toNat_natCast, Int.natCast_zero, nn_eq, nn_ne, g2])
    | ((first | (with_reducible show O _ _ _ _ _ _ _ _) | (with_reducible show OK _ _ _ _ _ _ _ _ _) | (with_reducible show OKF _ _ _ _ _ _ _ _ _ _) | (with_reducible show OKT _ _ _ _ _ _ _ _ _ _ _ _) | (with_reducible show _ ∧ _)); simp (disch := first | ((with_reducible show isStop _ = false); rfl) | ((with_reducible show isP _ = true); rfl) | ((with_reducible show (isStop _ || isP _) = false); rfl) | assumption | (simp only [gt_some, gb_bool, gb_undef, EVB, Option.bind_some, Nat.reduceEqDiff, reduceIte, beq_self_eq_true, Bool.not_true, Bool.not_false, beq_true, beq_false]; done) | omega | (with_reducible decide) | (simp only [List.length_cons, List.length_nil, List.size_toArray, List.toList_toArray, List.all_cons, List.all_nil, Go.Proofs.YtdfgdpjlbcnkfaaDoorAbs.oneC, Bool.and_self, Go.Proofs.YtdfgdpjlbcnkfaaDoorAbs.St.next_push, Go.Proofs.YtdfgdpjlbcnkfaaDoorAbs.St.next_upd, Nat.zero_add, Nat.reduceAdd, Nat.reduceLeDiff, Nat.le_refl, Nat.zero_le] <;> omega)) only [↓DN, ↓reduceIte, UP, Int.reduceEq, Int.reduceLT, Int.reduceLE, Nat.reduceEqDiff, Nat.reduceAdd, Nat.reduceMul, Nat.reduceSub, Int.reduceToNat, Nat.reduceLeDiff, PF, isStop, isP, goInt, beq_self_eq_true, decide_true, decide_false, Int.toNat_natCast, Int.natCast_zero, nn_eq, nn_ne, g2])
    | ((with_reducible show O _ _ _ (⟨_, _, _, _, _, some _⟩ :: _) _ _ _ _); refine O_split (by simp (disch := first | ((with_reducible show isStop _ = false); rfl) | ((with_reducible show isP _ = true); rfl) | ((with_reducible show (isStop _ || isP _) = false); rfl) | assumption | (simp only [gt_some, gb_bool, gb_undef, EVB, Option.bind_some, Nat.reduceEqDiff, reduceIte, beq_self_eq_true, Bool.not_true, Bool.not_false, beq_true, beq_false]; done) | omega | (with_reducible decide) | (simp only [List.length_cons, List.length_nil, List.size_toArray, List.toList_toArray, List.all_cons, List.all_nil, Go.Proofs.YtdfgdpjlbcnkfaaDoorAbs.oneC, Bool.and_self, Go.Proofs.YtdfgdpjlbcnkfaaDoorAbs.St.next_push, Go.Proofs.YtdfgdpjlbcnkfaaDoorAbs.St.next_upd, Nat.zero_add, Nat.reduceAdd, Nat.reduceLeDiff, Nat.le_refl, Nat.zero_le] <;> omega)) only [↓DN, ↓reduceIte, UP, Int.reduceEq, Int.reduceLT, Int.reduceLE, Nat.reduceEqDiff, Nat.reduceAdd, Nat.reduceMul, Nat.reduceSub, Int.reduceToNat, Nat.reduceLeDiff, PF, isStop, isP, goInt, beq_self_eq_true, decide_true, decide_false, Int.toNat_natCast, Int.natCast_zero, nn_eq, nn_ne, g2]; rfl) (fun ht => ?_) (fun ht => ?_) <;> (first | (simp only [Bool.true_eq_false, Bool.false_eq_true] at ht; done) | ((try simp only [Bool.not_eq_true', Bool.not_eq_false'] at ht); (try simp only [ht]); (try simp only [HTN] at ht); (try (exfalso; omega))))))
    have hq1 : ∀ i, blkOf (.slice ta1 r.text.length tc1) = some i → i ≠ S.next ∧ S.next ≤ i := fun i hi => ⟨by have := hN1 i hi; omega, by have := hN1 i hi; omega⟩
    have hq2 : ∀ i, blkOf (.slice la2 r.trailers.length lc2) = some i → S1.next ≤ i := fun i hi => hN2 i hi
    have e1 : blkOf (.slice ta1 r.text.length tc1) ≠ some S.next := fun e => (hq1 _ e).1 rfl
    have e2 : blkOf (.slice la2 r.trailers.length lc2) ≠ some S.next := fun e => by have := hq2 _ e; omega
    refine hQ _ S.next (.slice ta1 r.text.length tc1) (.slice la2 r.trailers.length lc2) 11 ⟨?_, Nat.le_refl _, n2, own_upd hO1' e1, own_upd hO2 e2, e1, e2, ?_⟩ (kk.upd (Nat.le_refl _) _) (Nat.le_refl _) (fun i hi => (hq1 i hi).2) (fun i hi => by have := hq2 i hi; omega)
    · rw [St.get_upd_self]
      simp [CR.as, CR.cells, errW, he]
    · rcases hz : blkOf (.slice ta1 r.text.length tc1) with _ | i
      · exact .inl rfl
      · refine .inr fun z => ?_
        have := own_lt hO1 hz
        have := hq2 i z.symm
        omega
end
end Go.Proofs.YtdfgdpjlbcnkfaaDoor.Q
