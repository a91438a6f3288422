/- The chunk reader on the runner: its functions, the law that feeds it, the plain part; for the inputs that each theorem names. -/
import Derived.Test.YtdfgdpjlbcnkfaaDoorCkA
import Derived.Test.YtdfgdpjlbcnkfaaDoorCkK
-- UF: CkFacts
namespace Go.Proofs.YtdfgdpjlbcnkfaaDoor.Q
open Go Go.Proofs.YtdfgdpjlbcnkfaaDoorAbs Go.Proofs
set_option linter.unusedVariables false
set_option linter.unusedSimpArgs false
set_option maxRecDepth 100000
set_option maxHeartbeats 4000000
attribute [local irreducible] Go.Proofs.YtdfgdpjlbcnkfaaDoorAbs.O Go.Proofs.YtdfgdpjlbcnkfaaDoorAbs.W Go.Proofs.YtdfgdpjlbcnkfaaDoorAbs.C Go.Proofs.YtdfgdpjlbcnkfaaDoorAbs.OK Go.Proofs.YtdfgdpjlbcnkfaaDoorAbs.OKF Go.Proofs.YtdfgdpjlbcnkfaaDoorAbs.OKT Go.Proofs.YtdfgdpjlbcnkfaaDoorAbs.then_ Go.Proofs.YtdfgdpjlbcnkfaaDoorAbs.inBlock_ Go.Proofs.YtdfgdpjlbcnkfaaDoorAbs.bodyQ Go.Proofs.YtdfgdpjlbcnkfaaDoorAbs.Cont
section
variable {I : Prims} {S : St} {Q : Value → St → Prop}
theorem np_eq (x : Operand) : binX Tryd.prog .eql 34 x (.const (.pointer none)) (.pointer none) (.pointer none) = some (.bool true) := by cases x <;> kernel_rfl
theorem np_ne (x : Operand) : binX Tryd.prog .neq 34 x (.const (.pointer none)) (.pointer none) (.pointer none) = some (.bool false) := by cases x <;> kernel_rfl
theorem FeedNone_C (h : HI I) {v : Value} (hQ : Q (.tuple #[.int .i64 0, .slice none 0 0, .bool false, .iface 58 (.int .i64 1)]) S) : C Tryd.prog I 15 #[.pointer none, v] S Q := by
  refine C_body (rs := [.tmp 4, .tmp 5, .tmp 6, .tmp 7]) (h.no 15 (by decide)) Tryd.func15 rfl rfl ok15 ?_
  obtain ⟨u22, sz5, u5, u9, u3, u29, u34, u33, sz3, u4, u41, sz66, u46, sz28, u47, u52, sz22, sz62, sz24, sz59, u59, sz60, u60, sz41, sz58, u58, sz73, sz34, sz4, sz9, sz83, u88, sz86, u112, sz118, u118, u2, sz126, u126, u21, sz130, u130, u139, u140, sz141, u141, u145, u148, sz147, u154, u155⟩ := UF
  repeat' (first
    | (with_reducible refine W_pushC fun K hK => ?_)
    | (with_reducible refine W_blockI ?_)
    | (with_reducible refine W_scopeI ?_)
    | (with_reducible refine W_labelI ?_)
    | (with_reducible refine W_skipI ?_)
    | (with_reducible refine W_retI ?_)
    | (with_reducible refine W_exitI ?_)
    | (with_reducible refine then_normalI ?_)
    | (with_reducible refine then_retI ?_)
    | (with_reducible refine then_exitI ?_)
    | (with_reducible refine inBlock_normalI ?_)
    | (with_reducible refine inBlock_retI ?_)
    | (with_reducible refine inBlock_exitI ?_)
    | (with_reducible refine inBlock_exitN (by decide) ?_)
    | ((with_reducible refine bodyQ_normal0 ?_); (try simp only [EVB, Nat.reduceEqDiff, reduceIte]))
    | ((with_reducible refine bodyQ_normal1 ?_); (try simp only [EVB, Nat.reduceEqDiff, reduceIte]))
    | ((with_reducible refine bodyQ_normal2 ?_); (try simp only [EVB, Nat.reduceEqDiff, reduceIte]))
    | ((with_reducible refine bodyQ_normal3 ?_); (try simp only [EVB, Nat.reduceEqDiff, reduceIte]))
    | ((with_reducible refine bodyQ_normal4 ?_); (try simp only [EVB, Nat.reduceEqDiff, reduceIte]))
    | ((with_reducible refine bodyQ_ret0 ?_); (try simp only [EVB, Nat.reduceEqDiff, reduceIte]))
    | ((with_reducible refine bodyQ_ret1 ?_); (try simp only [EVB, Nat.reduceEqDiff, reduceIte]))
    | ((with_reducible refine bodyQ_ret2 ?_); (try simp only [EVB, Nat.reduceEqDiff, reduceIte]))
    | ((with_reducible refine bodyQ_ret3 ?_); (try simp only [EVB, Nat.reduceEqDiff, reduceIte]))
    | ((with_reducible refine bodyQ_ret4 ?_); (try simp only [EVB, Nat.reduceEqDiff, reduceIte]))
    | (with_reducible refine Cont.use (by assumption) ?_)
    | ((with_reducible show W _ _ (.cond _ _ _) _ _ _); refine W_condI (by simp (disch := first | ((with_reducible show isStop _ = false); rfl) | ((with_reducible show isP _ = true); rfl) | ((with_reducible show (isStop _ || isP _) = false); rfl) | assumption | (simp only [gt_some, gb_bool, gb_undef, EVB, Option.bind_some, Nat.reduceEqDiff, reduceIte, beq_self_eq_true, Bool.not_true, Bool.not_false, beq_true, beq_false]; done) | omega | (with_reducible decide) | (simp only [List.length_cons, List.length_nil, List.size_toArray, List.toList_toArray, List.all_cons, List.all_nil, Go.Proofs.YtdfgdpjlbcnkfaaDoorAbs.oneC, Bool.and_self, Go.Proofs.YtdfgdpjlbcnkfaaDoorAbs.St.next_push, Go.Proofs.YtdfgdpjlbcnkfaaDoorAbs.St.next_upd, Nat.zero_add, Nat.reduceAdd, Nat.reduceLeDiff, Nat.le_refl, Nat.zero_le] <;> omega)) only [↓DN, ↓reduceIte, UP, Int.reduceEq, Int.reduceLT, Int.reduceLE, Nat.reduceEqDiff, Nat.reduceAdd, Nat.reduceMul, Nat.reduceSub, Int.reduceToNat, Nat.reduceLeDiff, PF, isStop, isP, goInt, beq_self_eq_true, decide_true, decide_false, Int.toNat_natCast, Int.natCast_zero, nn_eq, nn_ne, np_eq]; rfl) (fun ht => ?_) (fun ht => ?_) <;> (first | (simp only [Bool.true_eq_false, Bool.false_eq_true] at ht; done) | ((try simp only [Bool.not_eq_true', Bool.not_eq_false'] at ht); (try simp only [ht]); (try simp only [HTN] at ht); (try (exfalso; omega)))))
    | ((with_reducible refine W_regionI ?_); simp (disch := first | ((with_reducible show isStop _ = false); rfl) | ((with_reducible show isP _ = true); rfl) | ((with_reducible show (isStop _ || isP _) = false); rfl) | assumption | (simp only [gt_some, gb_bool, gb_undef, EVB, Option.bind_some, Nat.reduceEqDiff, reduceIte, beq_self_eq_true, Bool.not_true, Bool.not_false, beq_true, beq_false]; done) | omega | (with_reducible decide) | (simp only [List.length_cons, List.length_nil, List.size_toArray, List.toList_toArray, List.all_cons, List.all_nil, Go.Proofs.YtdfgdpjlbcnkfaaDoorAbs.oneC, Bool.and_self, Go.Proofs.YtdfgdpjlbcnkfaaDoorAbs.St.next_push, Go.Proofs.YtdfgdpjlbcnkfaaDoorAbs.St.next_upd, Nat.zero_add, Nat.reduceAdd, Nat.reduceLeDiff, Nat.le_refl, Nat.zero_le] <;> omega)) only [↓DN, ↓reduceIte, UP, Int.reduceEq, Int.reduceLT, Int.reduceLE, Nat.reduceEqDiff, Nat.reduceAdd, Nat.reduceMul, Nat.reduceSub, Int.reduceToNat, Nat.reduceLeDiff, PF, isStop, isP, goInt, beq_self_eq_true, decide_true, decide_false, Int.toNat_natCast, Int.natCast_zero, nn_eq, nn_ne, np_eq])
    | ((first | (with_reducible show O _ _ _ _ _ _ _ _) | (with_reducible show OK _ _ _ _ _ _ _ _ _) | (with_reducible show OKF _ _ _ _ _ _ _ _ _ _) | (with_reducible show OKT _ _ _ _ _ _ _ _ _ _ _ _) | (with_reducible show _ ∧ _)); simp (disch := first | ((with_reducible show isStop _ = false); rfl) | ((with_reducible show isP _ = true); rfl) | ((with_reducible show (isStop _ || isP _) = false); rfl) | assumption | (simp only [gt_some, gb_bool, gb_undef, EVB, Option.bind_some, Nat.reduceEqDiff, reduceIte, beq_self_eq_true, Bool.not_true, Bool.not_false, beq_true, beq_false]; done) | omega | (with_reducible decide) | (simp only [List.length_cons, List.length_nil, List.size_toArray, List.toList_toArray, List.all_cons, List.all_nil, Go.Proofs.YtdfgdpjlbcnkfaaDoorAbs.oneC, Bool.and_self, Go.Proofs.YtdfgdpjlbcnkfaaDoorAbs.St.next_push, Go.Proofs.YtdfgdpjlbcnkfaaDoorAbs.St.next_upd, Nat.zero_add, Nat.reduceAdd, Nat.reduceLeDiff, Nat.le_refl, Nat.zero_le] <;> omega)) only [↓DN, ↓reduceIte, UP, Int.reduceEq, Int.reduceLT, Int.reduceLE, Nat.reduceEqDiff, Nat.reduceAdd, Nat.reduceMul, Nat.reduceSub, Int.reduceToNat, Nat.reduceLeDiff, PF, isStop, isP, goInt, beq_self_eq_true, decide_true, decide_false, Int.toNat_natCast, Int.natCast_zero, nn_eq, nn_ne, np_eq])
    | ((with_reducible show O _ _ _ (⟨_, _, _, _, _, some _⟩ :: _) _ _ _ _); refine O_split (by simp (disch := first | ((with_reducible show isStop _ = false); rfl) | ((with_reducible show isP _ = true); rfl) | ((with_reducible show (isStop _ || isP _) = false); rfl) | assumption | (simp only [gt_some, gb_bool, gb_undef, EVB, Option.bind_some, Nat.reduceEqDiff, reduceIte, beq_self_eq_true, Bool.not_true, Bool.not_false, beq_true, beq_false]; done) | omega | (with_reducible decide) | (simp only [List.length_cons, List.length_nil, List.size_toArray, List.toList_toArray, List.all_cons, List.all_nil, Go.Proofs.YtdfgdpjlbcnkfaaDoorAbs.oneC, Bool.and_self, Go.Proofs.YtdfgdpjlbcnkfaaDoorAbs.St.next_push, Go.Proofs.YtdfgdpjlbcnkfaaDoorAbs.St.next_upd, Nat.zero_add, Nat.reduceAdd, Nat.reduceLeDiff, Nat.le_refl, Nat.zero_le] <;> omega)) only [↓DN, ↓reduceIte, UP, Int.reduceEq, Int.reduceLT, Int.reduceLE, Nat.reduceEqDiff, Nat.reduceAdd, Nat.reduceMul, Nat.reduceSub, Int.reduceToNat, Nat.reduceLeDiff, PF, isStop, isP, goInt, beq_self_eq_true, decide_true, decide_false, Int.toNat_natCast, Int.natCast_zero, nn_eq, nn_ne, np_eq]; rfl) (fun ht => ?_) (fun ht => ?_) <;> (first | (simp only [Bool.true_eq_false, Bool.false_eq_true] at ht; done) | ((try simp only [Bool.not_eq_true', Bool.not_eq_false'] at ht); (try simp only [ht]); (try simp only [HTN] at ht); (try (exfalso; omega)))))
    | (exact hQ))
theorem DoneNone_C (h : HI I) (hQ : Q (.bool false) S) : C Tryd.prog I 20 #[.pointer none] S Q := by
  refine C_body (rs := [.tmp 2]) (h.no 20 (by decide)) Tryd.func20 rfl rfl ok20 ?_
  obtain ⟨u22, sz5, u5, u9, u3, u29, u34, u33, sz3, u4, u41, sz66, u46, sz28, u47, u52, sz22, sz62, sz24, sz59, u59, sz60, u60, sz41, sz58, u58, sz73, sz34, sz4, sz9, sz83, u88, sz86, u112, sz118, u118, u2, sz126, u126, u21, sz130, u130, u139, u140, sz141, u141, u145, u148, sz147, u154, u155⟩ := UF
  repeat' (first
    | (with_reducible refine W_pushC fun K hK => ?_)
    | (with_reducible refine W_blockI ?_)
    | (with_reducible refine W_scopeI ?_)
    | (with_reducible refine W_labelI ?_)
    | (with_reducible refine W_skipI ?_)
    | (with_reducible refine W_retI ?_)
    | (with_reducible refine W_exitI ?_)
    | (with_reducible refine then_normalI ?_)
    | (with_reducible refine then_retI ?_)
    | (with_reducible refine then_exitI ?_)
    | (with_reducible refine inBlock_normalI ?_)
    | (with_reducible refine inBlock_retI ?_)
    | (with_reducible refine inBlock_exitI ?_)
    | (with_reducible refine inBlock_exitN (by decide) ?_)
    | ((with_reducible refine bodyQ_normal0 ?_); (try simp only [EVB, Nat.reduceEqDiff, reduceIte]))
    | ((with_reducible refine bodyQ_normal1 ?_); (try simp only [EVB, Nat.reduceEqDiff, reduceIte]))
    | ((with_reducible refine bodyQ_normal2 ?_); (try simp only [EVB, Nat.reduceEqDiff, reduceIte]))
    | ((with_reducible refine bodyQ_normal3 ?_); (try simp only [EVB, Nat.reduceEqDiff, reduceIte]))
    | ((with_reducible refine bodyQ_normal4 ?_); (try simp only [EVB, Nat.reduceEqDiff, reduceIte]))
    | ((with_reducible refine bodyQ_ret0 ?_); (try simp only [EVB, Nat.reduceEqDiff, reduceIte]))
    | ((with_reducible refine bodyQ_ret1 ?_); (try simp only [EVB, Nat.reduceEqDiff, reduceIte]))
    | ((with_reducible refine bodyQ_ret2 ?_); (try simp only [EVB, Nat.reduceEqDiff, reduceIte]))
    | ((with_reducible refine bodyQ_ret3 ?_); (try simp only [EVB, Nat.reduceEqDiff, reduceIte]))
    | ((with_reducible refine bodyQ_ret4 ?_); (try simp only [EVB, Nat.reduceEqDiff, reduceIte]))
    | (with_reducible refine Cont.use (by assumption) ?_)
    | ((with_reducible show W _ _ (.cond _ _ _) _ _ _); refine W_condI (by simp (disch := first | ((with_reducible show isStop _ = false); rfl) | ((with_reducible show isP _ = true); rfl) | ((with_reducible show (isStop _ || isP _) = false); rfl) | assumption | (simp only [gt_some, gb_bool, gb_undef, EVB, Option.bind_some, Nat.reduceEqDiff, reduceIte, beq_self_eq_true, Bool.not_true, Bool.not_false, beq_true, beq_false]; done) | omega | (with_reducible decide) | (simp only [List.length_cons, List.length_nil, List.size_toArray, List.toList_toArray, List.all_cons, List.all_nil, Go.Proofs.YtdfgdpjlbcnkfaaDoorAbs.oneC, Bool.and_self, Go.Proofs.YtdfgdpjlbcnkfaaDoorAbs.St.next_push, Go.Proofs.YtdfgdpjlbcnkfaaDoorAbs.St.next_upd, Nat.zero_add, Nat.reduceAdd, Nat.reduceLeDiff, Nat.le_refl, Nat.zero_le] <;> omega)) only [↓DN, ↓reduceIte, UP, Int.reduceEq, Int.reduceLT, Int.reduceLE, Nat.reduceEqDiff, Nat.reduceAdd, Nat.reduceMul, Nat.reduceSub, Int.reduceToNat, Nat.reduceLeDiff, PF, isStop, isP, goInt, beq_self_eq_true, decide_true, decide_false, Int.toNat_natCast, Int.natCast_zero, nn_eq, nn_ne, np_ne]; rfl) (fun ht => ?_) (fun ht => ?_) <;> (first | (simp only [Bool.true_eq_false, Bool.false_eq_true] at ht; done) | ((try simp only [Bool.not_eq_true', Bool.not_eq_false'] at ht); (try simp only [ht]); (try simp only [HTN] at ht); (try (exfalso; omega)))))
    | ((with_reducible refine W_regionI ?_); simp (disch := first | ((with_reducible show isStop _ = false); rfl) | ((with_reducible show isP _ = true); rfl) | ((with_reducible show (isStop _ || isP _) = false); rfl) | assumption | (simp only [gt_some, gb_bool, gb_undef, EVB, Option.bind_some, Nat.reduceEqDiff, reduceIte, beq_self_eq_true, Bool.not_true, Bool.not_false, beq_true, beq_false]; done) | omega | (with_reducible decide) | (simp only [List.length_cons, List.length_nil, List.size_toArray, List.toList_toArray, List.all_cons, List.all_nil, Go.Proofs.YtdfgdpjlbcnkfaaDoorAbs.oneC, Bool.and_self, Go.Proofs.YtdfgdpjlbcnkfaaDoorAbs.St.next_push, Go.Proofs.YtdfgdpjlbcnkfaaDoorAbs.St.next_upd, Nat.zero_add, Nat.reduceAdd, Nat.reduceLeDiff, Nat.le_refl, Nat.zero_le] <;> omega)) only [↓DN, ↓reduceIte, UP, Int.reduceEq, Int.reduceLT, Int.reduceLE, Nat.reduceEqDiff, Nat.reduceAdd, Nat.reduceMul, Nat.reduceSub, Int.reduceToNat, Nat.reduceLeDiff, PF, isStop, isP, goInt, beq_self_eq_true, decide_true, decide_false, Int.toNat_natCast, Int.natCast_zero, nn_eq, nn_ne, np_ne])
    | ((first | (with_reducible show O _ _ _ _ _ _ _ _) | (with_reducible show OK _ _ _ _ _ _ _ _ _) | (with_reducible show OKF _ _ _ _ _ _ _ _ _ _) | (with_reducible show OKT _ _ _ _ _ _ _ _ _ _ _ _) | (with_reducible show _ ∧ _)); simp (disch := first | ((with_reducible show isStop _ = false); rfl) | ((with_reducible show isP _ = true); rfl) | ((with_reducible show (isStop _ || isP _) = false); rfl) | assumption | (simp only [gt_some, gb_bool, gb_undef, EVB, Option.bind_some, Nat.reduceEqDiff, reduceIte, beq_self_eq_true, Bool.not_true, Bool.not_false, beq_true, beq_false]; done) | omega | (with_reducible decide) | (simp only [List.length_cons, List.length_nil, List.size_toArray, List.toList_toArray, List.all_cons, List.all_nil, Go.Proofs.YtdfgdpjlbcnkfaaDoorAbs.oneC, Bool.and_self, Go.Proofs.YtdfgdpjlbcnkfaaDoorAbs.St.next_push, Go.Proofs.YtdfgdpjlbcnkfaaDoorAbs.St.next_upd, Nat.zero_add, Nat.reduceAdd, Nat.reduceLeDiff, Nat.le_refl, Nat.zero_le] <;> omega)) only [↓DN, ↓reduceIte, UP, Int.reduceEq, Int.reduceLT, Int.reduceLE, Nat.reduceEqDiff, Nat.reduceAdd, Nat.reduceMul, Nat.reduceSub, Int.reduceToNat, Nat.reduceLeDiff, PF, isStop, isP, goInt, beq_self_eq_true, decide_true, decide_false, Int.toNat_natCast, Int.natCast_zero, nn_eq, nn_ne, np_ne])
    | ((with_reducible show O _ _ _ (⟨_, _, _, _, _, some _⟩ :: _) _ _ _ _); refine O_split (by simp (disch := first | ((with_reducible show isStop _ = false); rfl) | ((with_reducible show isP _ = true); rfl) | ((with_reducible show (isStop _ || isP _) = false); rfl) | assumption | (simp only [gt_some, gb_bool, gb_undef, EVB, Option.bind_some, Nat.reduceEqDiff, reduceIte, beq_self_eq_true, Bool.not_true, Bool.not_false, beq_true, beq_false]; done) | omega | (with_reducible decide) | (simp only [List.length_cons, List.length_nil, List.size_toArray, List.toList_toArray, List.all_cons, List.all_nil, Go.Proofs.YtdfgdpjlbcnkfaaDoorAbs.oneC, Bool.and_self, Go.Proofs.YtdfgdpjlbcnkfaaDoorAbs.St.next_push, Go.Proofs.YtdfgdpjlbcnkfaaDoorAbs.St.next_upd, Nat.zero_add, Nat.reduceAdd, Nat.reduceLeDiff, Nat.le_refl, Nat.zero_le] <;> omega)) only [↓DN, ↓reduceIte, UP, Int.reduceEq, Int.reduceLT, Int.reduceLE, Nat.reduceEqDiff, Nat.reduceAdd, Nat.reduceMul, Nat.reduceSub, Int.reduceToNat, Nat.reduceLeDiff, PF, isStop, isP, goInt, beq_self_eq_true, decide_true, decide_false, Int.toNat_natCast, Int.natCast_zero, nn_eq, nn_ne, np_ne]; rfl) (fun ht => ?_) (fun ht => ?_) <;> (first | (simp only [Bool.true_eq_false, Bool.false_eq_true] at ht; done) | ((try simp only [Bool.not_eq_true', Bool.not_eq_false'] at ht); (try simp only [ht]); (try simp only [HTN] at ht); (try (exfalso; omega)))))
    | (exact hQ))
theorem LenNone_C (h : HI I) (hQ : Q (.int .i64 0) S) : C Tryd.prog I 21 #[.pointer none] S Q := by
  refine C_body (rs := [.tmp 2]) (h.no 21 (by decide)) Tryd.func21 rfl rfl ok21 ?_
  obtain ⟨u22, sz5, u5, u9, u3, u29, u34, u33, sz3, u4, u41, sz66, u46, sz28, u47, u52, sz22, sz62, sz24, sz59, u59, sz60, u60, sz41, sz58, u58, sz73, sz34, sz4, sz9, sz83, u88, sz86, u112, sz118, u118, u2, sz126, u126, u21, sz130, u130, u139, u140, sz141, u141, u145, u148, sz147, u154, u155⟩ := UF
  repeat' (first
    | (with_reducible refine W_pushC fun K hK => ?_)
    | (with_reducible refine W_blockI ?_)
    | (with_reducible refine W_scopeI ?_)
    | (with_reducible refine W_labelI ?_)
    | (with_reducible refine W_skipI ?_)
    | (with_reducible refine W_retI ?_)
    | (with_reducible refine W_exitI ?_)
    | (with_reducible refine then_normalI ?_)
    | (with_reducible refine then_retI ?_)
    | (with_reducible refine then_exitI ?_)
    | (with_reducible refine inBlock_normalI ?_)
    | (with_reducible refine inBlock_retI ?_)
    | (with_reducible refine inBlock_exitI ?_)
    | (with_reducible refine inBlock_exitN (by decide) ?_)
    | ((with_reducible refine bodyQ_normal0 ?_); (try simp only [EVB, Nat.reduceEqDiff, reduceIte]))
    | ((with_reducible refine bodyQ_normal1 ?_); (try simp only [EVB, Nat.reduceEqDiff, reduceIte]))
    | ((with_reducible refine bodyQ_normal2 ?_); (try simp only [EVB, Nat.reduceEqDiff, reduceIte]))
    | ((with_reducible refine bodyQ_normal3 ?_); (try simp only [EVB, Nat.reduceEqDiff, reduceIte]))
    | ((with_reducible refine bodyQ_normal4 ?_); (try simp only [EVB, Nat.reduceEqDiff, reduceIte]))
    | ((with_reducible refine bodyQ_ret0 ?_); (try simp only [EVB, Nat.reduceEqDiff, reduceIte]))
    | ((with_reducible refine bodyQ_ret1 ?_); (try simp only [EVB, Nat.reduceEqDiff, reduceIte]))
    | ((with_reducible refine bodyQ_ret2 ?_); (try simp only [EVB, Nat.reduceEqDiff, reduceIte]))
    | ((with_reducible refine bodyQ_ret3 ?_); (try simp only [EVB, Nat.reduceEqDiff, reduceIte]))
    | ((with_reducible refine bodyQ_ret4 ?_); (try simp only [EVB, Nat.reduceEqDiff, reduceIte]))
    | (with_reducible refine Cont.use (by assumption) ?_)
    | ((with_reducible show W _ _ (.cond _ _ _) _ _ _); refine W_condI (by simp (disch := first | ((with_reducible show isStop _ = false); rfl) | ((with_reducible show isP _ = true); rfl) | ((with_reducible show (isStop _ || isP _) = false); rfl) | assumption | (simp only [gt_some, gb_bool, gb_undef, EVB, Option.bind_some, Nat.reduceEqDiff, reduceIte, beq_self_eq_true, Bool.not_true, Bool.not_false, beq_true, beq_false]; done) | omega | (with_reducible decide) | (simp only [List.length_cons, List.length_nil, List.size_toArray, List.toList_toArray, List.all_cons, List.all_nil, Go.Proofs.YtdfgdpjlbcnkfaaDoorAbs.oneC, Bool.and_self, Go.Proofs.YtdfgdpjlbcnkfaaDoorAbs.St.next_push, Go.Proofs.YtdfgdpjlbcnkfaaDoorAbs.St.next_upd, Nat.zero_add, Nat.reduceAdd, Nat.reduceLeDiff, Nat.le_refl, Nat.zero_le] <;> omega)) only [↓DN, ↓reduceIte, UP, Int.reduceEq, Int.reduceLT, Int.reduceLE, Nat.reduceEqDiff, Nat.reduceAdd, Nat.reduceMul, Nat.reduceSub, Int.reduceToNat, Nat.reduceLeDiff, PF, isStop, isP, goInt, beq_self_eq_true, decide_true, decide_false, Int.toNat_natCast, Int.natCast_zero, nn_eq, nn_ne, np_eq]; rfl) (fun ht => ?_) (fun ht => ?_) <;> (first | (simp only [Bool.true_eq_false, Bool.false_eq_true] at ht; done) | ((try simp only [Bool.not_eq_true', Bool.not_eq_false'] at ht); (try simp only [ht]); (try simp only [HTN] at ht); (try (exfalso; omega)))))
    | ((with_reducible refine W_regionI ?_); simp (disch := first | ((with_reducible show isStop _ = false); rfl) | ((with_reducible show isP _ = true); rfl) | ((with_reducible show (isStop _ || isP _) = false); rfl) | assumption | (simp only [gt_some, gb_bool, gb_undef, EVB, Option.bind_some, Nat.reduceEqDiff, reduceIte, beq_self_eq_true, Bool.not_true, Bool.not_false, beq_true, beq_false]; done) | omega | (with_reducible decide) | (simp only [List.length_cons, List.length_nil, List.size_toArray, List.toList_toArray, List.all_cons, List.all_nil, Go.Proofs.YtdfgdpjlbcnkfaaDoorAbs.oneC, Bool.and_self, Go.Proofs.YtdfgdpjlbcnkfaaDoorAbs.St.next_push, Go.Proofs.YtdfgdpjlbcnkfaaDoorAbs.St.next_upd, Nat.zero_add, Nat.reduceAdd, Nat.reduceLeDiff, Nat.le_refl, Nat.zero_le] <;> omega)) only [↓DN, ↓reduceIte, UP, Int.reduceEq, Int.reduceLT, Int.reduceLE, Nat.reduceEqDiff, Nat.reduceAdd, Nat.reduceMul, Nat.reduceSub, Int.reduceToNat, Nat.reduceLeDiff, PF, isStop, isP, goInt, beq_self_eq_true, decide_true, decide_false, Int.toNat_natCast, Int.natCast_zero, nn_eq, nn_ne, np_eq])
    | ((first | (with_reducible show O _ _ _ _ _ _ _ _) | (with_reducible show OK _ _ _ _ _ _ _ _ _) | (with_reducible show OKF _ _ _ _ _ _ _ _ _ _) | (with_reducible show OKT _ _ _ _ _ _ _ _ _ _ _ _) | (with_reducible show _ ∧ _)); simp (disch := first | ((with_reducible show isStop _ = false); rfl) | ((with_reducible show isP _ = true); rfl) | ((with_reducible show (isStop _ || isP _) = false); rfl) | assumption | (simp only [gt_some, gb_bool, gb_undef, EVB, Option.bind_some, Nat.reduceEqDiff, reduceIte, beq_self_eq_true, Bool.not_true, Bool.not_false, beq_true, beq_false]; done) | omega | (with_reducible decide) | (simp only [List.length_cons, List.length_nil, List.size_toArray, List.toList_toArray, List.all_cons, List.all_nil, Go.Proofs.YtdfgdpjlbcnkfaaDoorAbs.oneC, Bool.and_self, Go.Proofs.YtdfgdpjlbcnkfaaDoorAbs.St.next_push, Go.Proofs.YtdfgdpjlbcnkfaaDoorAbs.St.next_upd, Nat.zero_add, Nat.reduceAdd, Nat.reduceLeDiff, Nat.le_refl, Nat.zero_le] <;> omega)) only [↓DN, ↓reduceIte, UP, Int.reduceEq, Int.reduceLT, Int.reduceLE, Nat.reduceEqDiff, Nat.reduceAdd, Nat.reduceMul, Nat.reduceSub, Int.reduceToNat, Nat.reduceLeDiff, PF, isStop, isP, goInt, beq_self_eq_true, decide_true, decide_false, Int.toNat_natCast, Int.natCast_zero, nn_eq, nn_ne, np_eq])
    | ((with_reducible show O _ _ _ (⟨_, _, _, _, _, some _⟩ :: _) _ _ _ _); refine O_split (by simp (disch := first | ((with_reducible show isStop _ = false); rfl) | ((with_reducible show isP _ = true); rfl) | ((with_reducible show (isStop _ || isP _) = false); rfl) | assumption | (simp only [gt_some, gb_bool, gb_undef, EVB, Option.bind_some, Nat.reduceEqDiff, reduceIte, beq_self_eq_true, Bool.not_true, Bool.not_false, beq_true, beq_false]; done) | omega | (with_reducible decide) | (simp only [List.length_cons, List.length_nil, List.size_toArray, List.toList_toArray, List.all_cons, List.all_nil, Go.Proofs.YtdfgdpjlbcnkfaaDoorAbs.oneC, Bool.and_self, Go.Proofs.YtdfgdpjlbcnkfaaDoorAbs.St.next_push, Go.Proofs.YtdfgdpjlbcnkfaaDoorAbs.St.next_upd, Nat.zero_add, Nat.reduceAdd, Nat.reduceLeDiff, Nat.le_refl, Nat.zero_le] <;> omega)) only [↓DN, ↓reduceIte, UP, Int.reduceEq, Int.reduceLT, Int.reduceLE, Nat.reduceEqDiff, Nat.reduceAdd, Nat.reduceMul, Nat.reduceSub, Int.reduceToNat, Nat.reduceLeDiff, PF, isStop, isP, goInt, beq_self_eq_true, decide_true, decide_false, Int.toNat_natCast, Int.natCast_zero, nn_eq, nn_ne, np_eq]; rfl) (fun ht => ?_) (fun ht => ?_) <;> (first | (simp only [Bool.true_eq_false, Bool.false_eq_true] at ht; done) | ((try simp only [Bool.not_eq_true', Bool.not_eq_false'] at ht); (try simp only [ht]); (try simp only [HTN] at ht); (try (exfalso; omega)))))
    | (exact hQ))
theorem TrailersNone_C (h : HI I) (hQ : Q (.slice none 0 0) S) : C Tryd.prog I 18 #[.pointer none] S Q := by
  refine C_body (rs := [.tmp 2]) (h.no 18 (by decide)) Tryd.func18 rfl rfl ok18 ?_
  obtain ⟨u22, sz5, u5, u9, u3, u29, u34, u33, sz3, u4, u41, sz66, u46, sz28, u47, u52, sz22, sz62, sz24, sz59, u59, sz60, u60, sz41, sz58, u58, sz73, sz34, sz4, sz9, sz83, u88, sz86, u112, sz118, u118, u2, sz126, u126, u21, sz130, u130, u139, u140, sz141, u141, u145, u148, sz147, u154, u155⟩ := UF
  repeat' (first
    | (with_reducible refine W_pushC fun K hK => ?_)
    | (with_reducible refine W_blockI ?_)
    | (with_reducible refine W_scopeI ?_)
    | (with_reducible refine W_labelI ?_)
    | (with_reducible refine W_skipI ?_)
    | (with_reducible refine W_retI ?_)
    | (with_reducible refine W_exitI ?_)
    | (with_reducible refine then_normalI ?_)
    | (with_reducible refine then_retI ?_)
    | (with_reducible refine then_exitI ?_)
    | (with_reducible refine inBlock_normalI ?_)
    | (with_reducible refine inBlock_retI ?_)
    | (with_reducible refine inBlock_exitI ?_)
    | (with_reducible refine inBlock_exitN (by decide) ?_)
    | ((with_reducible refine bodyQ_normal0 ?_); (try simp only [EVB, Nat.reduceEqDiff, reduceIte]))
    | ((with_reducible refine bodyQ_normal1 ?_); (try simp only [EVB, Nat.reduceEqDiff, reduceIte]))
    | ((with_reducible refine bodyQ_normal2 ?_); (try simp only [EVB, Nat.reduceEqDiff, reduceIte]))
    | ((with_reducible refine bodyQ_normal3 ?_); (try simp only [EVB, Nat.reduceEqDiff, reduceIte]))
    | ((with_reducible refine bodyQ_normal4 ?_); (try simp only [EVB, Nat.reduceEqDiff, reduceIte]))
    | ((with_reducible refine bodyQ_ret0 ?_); (try simp only [EVB, Nat.reduceEqDiff, reduceIte]))
    | ((with_reducible refine bodyQ_ret1 ?_); (try simp only [EVB, Nat.reduceEqDiff, reduceIte]))
    | ((with_reducible refine bodyQ_ret2 ?_); (try simp only [EVB, Nat.reduceEqDiff, reduceIte]))
    | ((with_reducible refine bodyQ_ret3 ?_); (try simp only [EVB, Nat.reduceEqDiff, reduceIte]))
    | ((with_reducible refine bodyQ_ret4 ?_); (try simp only [EVB, Nat.reduceEqDiff, reduceIte]))
    | (with_reducible refine Cont.use (by assumption) ?_)
    | ((with_reducible show W _ _ (.cond _ _ _) _ _ _); refine W_condI (by simp (disch := first | ((with_reducible show isStop _ = false); rfl) | ((with_reducible show isP _ = true); rfl) | ((with_reducible show (isStop _ || isP _) = false); rfl) | assumption | (simp only [gt_some, gb_bool, gb_undef, EVB, Option.bind_some, Nat.reduceEqDiff, reduceIte, beq_self_eq_true, Bool.not_true, Bool.not_false, beq_true, beq_false]; done) | omega | (with_reducible decide) | (simp only [List.length_cons, List.length_nil, List.size_toArray, List.toList_toArray, List.all_cons, List.all_nil, Go.Proofs.YtdfgdpjlbcnkfaaDoorAbs.oneC, Bool.and_self, Go.Proofs.YtdfgdpjlbcnkfaaDoorAbs.St.next_push, Go.Proofs.YtdfgdpjlbcnkfaaDoorAbs.St.next_upd, Nat.zero_add, Nat.reduceAdd, Nat.reduceLeDiff, Nat.le_refl, Nat.zero_le] <;> omega)) only [↓DN, ↓reduceIte, UP, Int.reduceEq, Int.reduceLT, Int.reduceLE, Nat.reduceEqDiff, Nat.reduceAdd, Nat.reduceMul, Nat.reduceSub, Int.reduceToNat, Nat.reduceLeDiff, PF, isStop, isP, goInt, beq_self_eq_true, decide_true, decide_false, Int.toNat_natCast, Int.natCast_zero, nn_eq, nn_ne, np_eq]; rfl) (fun ht => ?_) (fun ht => ?_) <;> (first | (simp only [Bool.true_eq_false, Bool.false_eq_true] at ht; done) | ((try simp only [Bool.not_eq_true', Bool.not_eq_false'] at ht); (try simp only [ht]); (try simp only [HTN] at ht); (try (exfalso; omega)))))
    | ((with_reducible refine W_regionI ?_); simp (disch := first | ((with_reducible show isStop _ = false); rfl) | ((with_reducible show isP _ = true); rfl) | ((with_reducible show (isStop _ || isP _) = false); rfl) | assumption | (simp only [gt_some, gb_bool, gb_undef, EVB, Option.bind_some, Nat.reduceEqDiff, reduceIte, beq_self_eq_true, Bool.not_true, Bool.not_false, beq_true, beq_false]; done) | omega | (with_reducible decide) | (simp only [List.length_cons, List.length_nil, List.size_toArray, List.toList_toArray, List.all_cons, List.all_nil, Go.Proofs.YtdfgdpjlbcnkfaaDoorAbs.oneC, Bool.and_self, Go.Proofs.YtdfgdpjlbcnkfaaDoorAbs.St.next_push, Go.Proofs.YtdfgdpjlbcnkfaaDoorAbs.St.next_upd, Nat.zero_add, Nat.reduceAdd, Nat.reduceLeDiff, Nat.le_refl, Nat.zero_le] <;> omega)) only [↓DN, ↓reduceIte, UP, Int.reduceEq, Int.reduceLT, Int.reduceLE, Nat.reduceEqDiff, Nat.reduceAdd, Nat.reduceMul, Nat.reduceSub, Int.reduceToNat, Nat.reduceLeDiff, PF, isStop, isP, goInt, beq_self_eq_true, decide_true, decide_false, Int.toNat_natCast, Int.natCast_zero, nn_eq, nn_ne, np_eq])
    | ((first | (with_reducible show O _ _ _ _ _ _ _ _) | (with_reducible show OK _ _ _ _ _ _ _ _ _) | (with_reducible show OKF _ _ _ _ _ _ _ _ _ _) | (with_reducible show OKT _ _ _ _ _ _ _ _ _ _ _ _) | (with_reducible show _ ∧ _)); simp (disch := first | ((with_reducible show isStop _ = false); rfl) | ((with_reducible show isP _ = true); rfl) | ((with_reducible show (isStop _ || isP _) = false); rfl) | assumption | (simp only [gt_some, gb_bool, gb_undef, EVB, Option.bind_some, Nat.reduceEqDiff, reduceIte, beq_self_eq_true, Bool.not_true, Bool.not_false, beq_true, beq_false]; done) | omega | (with_reducible decide) | (simp only [List.length_cons, List.length_nil, List.size_toArray, List.toList_toArray, List.all_cons, List.all_nil, Go.Proofs.YtdfgdpjlbcnkfaaDoorAbs.oneC, Bool.and_self, Go.Proofs.YtdfgdpjlbcnkfaaDoorAbs.St.next_push, Go.Proofs.YtdfgdpjlbcnkfaaDoorAbs.St.next_upd, Nat.zero_add, Nat.reduceAdd, Nat.reduceLeDiff, Nat.le_refl, Nat.zero_le] <;> omega)) only [↓DN, ↓reduceIte, UP, Int.reduceEq, Int.reduceLT, Int.reduceLE, Nat.reduceEqDiff, Nat.reduceAdd, Nat.reduceMul, Nat.reduceSub, Int.reduceToNat, Nat.reduceLeDiff, PF, isStop, isP, goInt, beq_self_eq_true, decide_true, decide_false, Int.toNat_natCast, Int.natCast_zero, nn_eq, nn_ne, np_eq])
    | ((with_reducible show O _ _ _ (⟨_, _, _, _, _, some _⟩ :: _) _ _ _ _); refine O_split (by simp (disch := first | ((with_reducible show isStop _ = false); rfl) | ((with_reducible show isP _ = true); rfl) | ((with_reducible show (isStop _ || isP _) = false); rfl) | assumption | (simp only [gt_some, gb_bool, gb_undef, EVB, Option.bind_some, Nat.reduceEqDiff, reduceIte, beq_self_eq_true, Bool.not_true, Bool.not_false, beq_true, beq_false]; done) | omega | (with_reducible decide) | (simp only [List.length_cons, List.length_nil, List.size_toArray, List.toList_toArray, List.all_cons, List.all_nil, Go.Proofs.YtdfgdpjlbcnkfaaDoorAbs.oneC, Bool.and_self, Go.Proofs.YtdfgdpjlbcnkfaaDoorAbs.St.next_push, Go.Proofs.YtdfgdpjlbcnkfaaDoorAbs.St.next_upd, Nat.zero_add, Nat.reduceAdd, Nat.reduceLeDiff, Nat.le_refl, Nat.zero_le] <;> omega)) only [↓DN, ↓reduceIte, UP, Int.reduceEq, Int.reduceLT, Int.reduceLE, Nat.reduceEqDiff, Nat.reduceAdd, Nat.reduceMul, Nat.reduceSub, Int.reduceToNat, Nat.reduceLeDiff, PF, isStop, isP, goInt, beq_self_eq_true, decide_true, decide_false, Int.toNat_natCast, Int.natCast_zero, nn_eq, nn_ne, np_eq]; rfl) (fun ht => ?_) (fun ht => ?_) <;> (first | (simp only [Bool.true_eq_false, Bool.false_eq_true] at ht; done) | ((try simp only [Bool.not_eq_true', Bool.not_eq_false'] at ht); (try simp only [ht]); (try simp only [HTN] at ht); (try (exfalso; omega)))))
    | (exact hQ))
theorem CloneNone_C (h : HI I) (hQ : Q (.pointer none) S) : C Tryd.prog I 19 #[.pointer none] S Q := by
  refine C_body (rs := [.tmp 2]) (h.no 19 (by decide)) Tryd.func19 rfl rfl ok19 ?_
  obtain ⟨u22, sz5, u5, u9, u3, u29, u34, u33, sz3, u4, u41, sz66, u46, sz28, u47, u52, sz22, sz62, sz24, sz59, u59, sz60, u60, sz41, sz58, u58, sz73, sz34, sz4, sz9, sz83, u88, sz86, u112, sz118, u118, u2, sz126, u126, u21, sz130, u130, u139, u140, sz141, u141, u145, u148, sz147, u154, u155⟩ := UF
  repeat' (first
    | (with_reducible refine W_pushC fun K hK => ?_)
    | (with_reducible refine W_blockI ?_)
    | (with_reducible refine W_scopeI ?_)
    | (with_reducible refine W_labelI ?_)
    | (with_reducible refine W_skipI ?_)
    | (with_reducible refine W_retI ?_)
    | (with_reducible refine W_exitI ?_)
    | (with_reducible refine then_normalI ?_)
    | (with_reducible refine then_retI ?_)
    | (with_reducible refine then_exitI ?_)
    | (with_reducible refine inBlock_normalI ?_)
    | (with_reducible refine inBlock_retI ?_)
    | (with_reducible refine inBlock_exitI ?_)
    | (with_reducible refine inBlock_exitN (by decide) ?_)
    | ((with_reducible refine bodyQ_normal0 ?_); (try simp only [EVB, Nat.reduceEqDiff, reduceIte]))
    | ((with_reducible refine bodyQ_normal1 ?_); (try simp only [EVB, Nat.reduceEqDiff, reduceIte]))
    | ((with_reducible refine bodyQ_normal2 ?_); (try simp only [EVB, Nat.reduceEqDiff, reduceIte]))
    | ((with_reducible refine bodyQ_normal3 ?_); (try simp only [EVB, Nat.reduceEqDiff, reduceIte]))
    | ((with_reducible refine bodyQ_normal4 ?_); (try simp only [EVB, Nat.reduceEqDiff, reduceIte]))
    | ((with_reducible refine bodyQ_ret0 ?_); (try simp only [EVB, Nat.reduceEqDiff, reduceIte]))
    | ((with_reducible refine bodyQ_ret1 ?_); (try simp only [EVB, Nat.reduceEqDiff, reduceIte]))
    | ((with_reducible refine bodyQ_ret2 ?_); (try simp only [EVB, Nat.reduceEqDiff, reduceIte]))
    | ((with_reducible refine bodyQ_ret3 ?_); (try simp only [EVB, Nat.reduceEqDiff, reduceIte]))
    | ((with_reducible refine bodyQ_ret4 ?_); (try simp only [EVB, Nat.reduceEqDiff, reduceIte]))
    | (with_reducible refine Cont.use (by assumption) ?_)
    | ((with_reducible show W _ _ (.cond _ _ _) _ _ _); refine W_condI (by simp (disch := first | ((with_reducible show isStop _ = false); rfl) | ((with_reducible show isP _ = true); rfl) | ((with_reducible show (isStop _ || isP _) = false); rfl) | assumption | (simp only [gt_some, gb_bool, gb_undef, EVB, Option.bind_some, Nat.reduceEqDiff, reduceIte, beq_self_eq_true, Bool.not_true, Bool.not_false, beq_true, beq_false]; done) | omega | (with_reducible decide) | (simp only [List.length_cons, List.length_nil, List.size_toArray, List.toList_toArray, List.all_cons, List.all_nil, Go.Proofs.YtdfgdpjlbcnkfaaDoorAbs.oneC, Bool.and_self, Go.Proofs.YtdfgdpjlbcnkfaaDoorAbs.St.next_push, Go.Proofs.YtdfgdpjlbcnkfaaDoorAbs.St.next_upd, Nat.zero_add, Nat.reduceAdd, Nat.reduceLeDiff, Nat.le_refl, Nat.zero_le] <;> omega)) only [↓DN, ↓reduceIte, UP, Int.reduceEq, Int.reduceLT, Int.reduceLE, Nat.reduceEqDiff, Nat.reduceAdd, Nat.reduceMul, Nat.reduceSub, Int.reduceToNat, Nat.reduceLeDiff, PF, isStop, isP, goInt, beq_self_eq_true, decide_true, decide_false, Int.toNat_natCast, Int.natCast_zero, nn_eq, nn_ne, np_eq]; rfl) (fun ht => ?_) (fun ht => ?_) <;> (first | (simp only [Bool.true_eq_false, Bool.false_eq_true] at ht; done) | ((try simp only [Bool.not_eq_true', Bool.not_eq_false'] at ht); (try simp only [ht]); (try simp only [HTN] at ht); (try (exfalso; omega)))))
    | ((with_reducible refine W_regionI ?_); simp (disch := first | ((with_reducible show isStop _ = false); rfl) | ((with_reducible show isP _ = true); rfl) | ((with_reducible show (isStop _ || isP _) = false); rfl) | assumption | (simp only [gt_some, gb_bool, gb_undef, EVB, Option.bind_some, Nat.reduceEqDiff, reduceIte, beq_self_eq_true, Bool.not_true, Bool.not_false, beq_true, beq_false]; done) | omega | (with_reducible decide) | (simp only [List.length_cons, List.length_nil, List.size_toArray, List.toList_toArray, List.all_cons, List.all_nil, Go.Proofs.YtdfgdpjlbcnkfaaDoorAbs.oneC, Bool.and_self, Go.Proofs.YtdfgdpjlbcnkfaaDoorAbs.St.next_push, Go.Proofs.YtdfgdpjlbcnkfaaDoorAbs.St.next_upd, Nat.zero_add, Nat.reduceAdd, Nat.reduceLeDiff, Nat.le_refl, Nat.zero_le] <;> omega)) only [↓DN, ↓reduceIte, UP, Int.reduceEq, Int.reduceLT, Int.reduceLE, Nat.reduceEqDiff, Nat.reduceAdd, Nat.reduceMul, Nat.reduceSub, Int.reduceToNat, Nat.reduceLeDiff, PF, isStop, isP, goInt, beq_self_eq_true, decide_true, decide_false, Int.toNat_natCast, Int.natCast_zero, nn_eq, nn_ne, np_eq])
    | ((first | (with_reducible show O _ _ _ _ _ _ _ _) | (with_reducible show OK _ _ _ _ _ _ _ _ _) | (with_reducible show OKF _ _ _ _ _ _ _ _ _ _) | (with_reducible show OKT _ _ _ _ _ _ _ _ _ _ _ _) | (with_reducible show _ ∧ _)); simp (disch := first | ((with_reducible show isStop _ = false); rfl) | ((with_reducible show isP _ = true); rfl) | ((with_reducible show (isStop _ || isP _) = false); rfl) | assumption | (simp only [gt_some, gb_bool, gb_undef, EVB, Option.bind_some, Nat.reduceEqDiff, reduceIte, beq_self_eq_true, Bool.not_true, Bool.not_false, beq_true, beq_false]; done) | omega | (with_reducible decide) | (simp only [List.length_cons, List.length_nil, List.size_toArray, List.toList_toArray, List.all_cons, List.all_nil, Go.Proofs.YtdfgdpjlbcnkfaaDoorAbs.oneC, Bool.and_self, Go.Proofs.YtdfgdpjlbcnkfaaDoorAbs.St.next_push, Go.Proofs.YtdfgdpjlbcnkfaaDoorAbs.St.next_upd, Nat.zero_add, Nat.reduceAdd, Nat.reduceLeDiff, Nat.le_refl, Nat.zero_le] <;> omega)) only [↓DN, ↓reduceIte, UP, Int.reduceEq, Int.reduceLT, Int.reduceLE, Nat.reduceEqDiff, Nat.reduceAdd, Nat.reduceMul, Nat.reduceSub, Int.reduceToNat, Nat.reduceLeDiff, PF, isStop, isP, goInt, beq_self_eq_true, decide_true, decide_false, Int.toNat_natCast, Int.natCast_zero, nn_eq, nn_ne, np_eq])
    | ((with_reducible show O _ _ _ (⟨_, _, _, _, _, some _⟩ :: _) _ _ _ _); refine O_split (by simp (disch := first | ((with_reducible show isStop _ = false); rfl) | ((with_reducible show isP _ = true); rfl) | ((with_reducible show (isStop _ || isP _) = false); rfl) | assumption | (simp only [gt_some, gb_bool, gb_undef, EVB, Option.bind_some, Nat.reduceEqDiff, reduceIte, beq_self_eq_true, Bool.not_true, Bool.not_false, beq_true, beq_false]; done) | omega | (with_reducible decide) | (simp only [List.length_cons, List.length_nil, List.size_toArray, List.toList_toArray, List.all_cons, List.all_nil, Go.Proofs.YtdfgdpjlbcnkfaaDoorAbs.oneC, Bool.and_self, Go.Proofs.YtdfgdpjlbcnkfaaDoorAbs.St.next_push, Go.Proofs.YtdfgdpjlbcnkfaaDoorAbs.St.next_upd, Nat.zero_add, Nat.reduceAdd, Nat.reduceLeDiff, Nat.le_refl, Nat.zero_le] <;> omega)) only [↓DN, ↓reduceIte, UP, Int.reduceEq, Int.reduceLT, Int.reduceLE, Nat.reduceEqDiff, Nat.reduceAdd, Nat.reduceMul, Nat.reduceSub, Int.reduceToNat, Nat.reduceLeDiff, PF, isStop, isP, goInt, beq_self_eq_true, decide_true, decide_false, Int.toNat_natCast, Int.natCast_zero, nn_eq, nn_ne, np_eq]; rfl) (fun ht => ?_) (fun ht => ?_) <;> (first | (simp only [Bool.true_eq_false, Bool.false_eq_true] at ht; done) | ((try simp only [Bool.not_eq_true', Bool.not_eq_false'] at ht); (try simp only [ht]); (try simp only [HTN] at ht); (try (exfalso; omega)))))
    | (exact hQ))
theorem mv_base {Sa Sb : St} {b : Nat} {tv lv tv' lv' : Value} (h : Mv Sa Sb b tv lv tv' lv') (k : Kept S Sa none) (hb : S.next ≤ b) (ht : ∀ i, blkOf tv = some i → S.next ≤ i) (hl : ∀ i, blkOf lv = some i → S.next ≤ i) :
    Kept S Sb none ∧ (∀ i, blkOf tv' = some i → S.next ≤ i) ∧ (∀ i, blkOf lv' = some i → S.next ≤ i) :=
  ⟨⟨Nat.le_trans k.1 h.next, fun i hi _ => (h.keep i (Nat.lt_of_lt_of_le hi k.1) (by omega) (fun e => by have := ht i e; omega) (fun e => by have := hl i e; omega)).trans (k.2 i hi (by simp))⟩,
    fun i hi => (h.t i hi).elim (ht i) (fun q => Nat.le_trans k.1 q), fun i hi => (h.l i hi).elim (hl i) (fun q => Nat.le_trans k.1 q)⟩
theorem ba_append (a b : List UInt8) : ((⟨a.toArray⟩ : ByteArray) ++ (⟨b.toArray⟩ : ByteArray)) = ⟨(a ++ b).toArray⟩ := by
  apply ByteArray.ext
  simp
theorem feed_stopped : ∀ (xs : List UInt8) (r : PRd), (feedF r xs).1 < xs.length → (feedF r xs).2.2.err ≠ none ∨ (feedF r xs).2.2.state = 8
  | [], r, h => by simp at h
  | c :: l, r, h => by
    unfold feedF at h ⊢
    split
    · assumption
    · rename_i hn
      rw [if_neg hn] at h
      exact feed_stopped l _ (by simpa using h)
/-- Fed in two, as fed in one. -/
theorem feed_two (r : PRd) (xs : List UInt8) (j : Nat) (hj : j ≤ xs.length) : feedF r xs = ((feedF r (xs.take j)).1 + (feedF (feedF r (xs.take j)).2.2 (xs.drop (feedF r (xs.take j)).1)).1, (feedF r (xs.take j)).2.1 ++ (feedF (feedF r (xs.take j)).2.2 (xs.drop (feedF r (xs.take j)).1)).2.1, (feedF (feedF r (xs.take j)).2.2 (xs.drop (feedF r (xs.take j)).1)).2.2) := by
  have ha := feed_append (xs.take j) (xs.drop j) r
  rw [List.take_append_drop] at ha
  have hl : (xs.take j).length = j := by simp; omega
  have hle := feed_le (xs.take j) r
  by_cases hs : (feedF r (xs.take j)).1 < (xs.take j).length
  · rw [if_pos hs] at ha
    have := feed_stop (feedF r (xs.take j)).2.2 (xs.drop (feedF r (xs.take j)).1) (.inr (feed_stopped _ _ hs))
    rw [this, ha]
    simp
  · rw [if_neg hs] at ha
    have e : (feedF r (xs.take j)).1 = j := by omega
    rw [ha, e, hl]
end
end Go.Proofs.YtdfgdpjlbcnkfaaDoor.Q
