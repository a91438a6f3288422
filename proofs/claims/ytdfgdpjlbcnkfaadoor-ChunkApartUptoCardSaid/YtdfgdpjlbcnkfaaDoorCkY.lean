/- The chunk reader on the runner: its functions, the law that feeds it, the plain part; for the inputs that each theorem names. -/
import Derived.Test.YtdfgdpjlbcnkfaaDoorCkX
import Derived.Test.YtdfgdpjlbcnkfaaDoorAbsB
import Derived.Laws.StructEq
-- UF: CkFacts
namespace Go.Proofs.YtdfgdpjlbcnkfaaDoor.Q
open Go Go.Proofs.YtdfgdpjlbcnkfaaDoorAbs Go.Proofs
set_option linter.unusedVariables false
set_option linter.unusedSimpArgs false
set_option maxRecDepth 100000
set_option maxHeartbeats 4000000
attribute [local irreducible] Go.Proofs.YtdfgdpjlbcnkfaaDoorAbs.O Go.Proofs.YtdfgdpjlbcnkfaaDoorAbs.W Go.Proofs.YtdfgdpjlbcnkfaaDoorAbs.C Go.Proofs.YtdfgdpjlbcnkfaaDoorAbs.OK Go.Proofs.YtdfgdpjlbcnkfaaDoorAbs.OKF Go.Proofs.YtdfgdpjlbcnkfaaDoorAbs.OKT Go.Proofs.YtdfgdpjlbcnkfaaDoorAbs.then_ Go.Proofs.YtdfgdpjlbcnkfaaDoorAbs.inBlock_ Go.Proofs.YtdfgdpjlbcnkfaaDoorAbs.bodyQ Go.Proofs.YtdfgdpjlbcnkfaaDoorAbs.Cont
section
variable {I : Prims} {S : St} {Q : Value → St → Prop}
theorem nsl_eq (x : Operand) : binX Tryd.prog .eql 41 x (.const (.slice none 0 0)) (.slice none 0 0) (.slice none 0 0) = some (.bool true) := by cases x <;> kernel_rfl
theorem nsl22_eq (x : Operand) : binX Tryd.prog .eql 22 x (.const (.slice none 0 0)) (.slice none 0 0) (.slice none 0 0) = some (.bool true) := by cases x <;> kernel_rfl
def CR.fresh {α β : Type} (t : α) (l : β) (most : Int) : CR α β := ⟨most, 0, 0, none, 0, 0, false, 0, t, 0, l⟩
theorem New_C (h : HI I) {most : Int}
    (hQ : ¬ (most < 0 ∨ 1099511627776 < most) → Q (.tuple #[.pointer (some ⟨S.next, 0, some 11⟩), .nilIface]) (S.push ⟨(CR.fresh (.slice none 0 0) (.slice none 0 0) most).cells, 62, true, 0⟩))
    (hQ2 : (most < 0 ∨ 1099511627776 < most) → Q (.tuple #[.pointer none, .iface 58 (.int .i64 1)]) S) :
    C Tryd.prog I 12 #[.int .i64 most] S Q := by
  refine C_body (rs := [.tmp 2, .tmp 3]) (h.no 12 (by decide)) Tryd.func12 rfl rfl ok12 ?_
  obtain ⟨u22, sz5, u5, u9, u3, u29, u34, u33, sz3, u4, u41, sz66, u46, sz28, u47, u52, sz22, sz62, sz24, sz59, u59, sz60, u60, sz41, sz58, u58, sz73, sz34, sz4, sz9, sz83, u88, sz86, u112, sz118, u118, u2, sz126, u126, u21, sz130, u130, u139, u140, sz141, u141, u145, u148, sz147, u154, u155⟩ := UF
  repeat' (first
    | (with_reducible refine W_pushC fun K hK => ?_)
    | (with_reducible refine W_blockI ?_)
    | (with_reducible refine W_scopeI ?_)
    | (with_reducible refine W_labelI ?_)
    | (with_reducible refine W_skipI ?_)
    | (with_reducible refine W_retI ?_)
    | (with_reducible refine W_exitI ?_)
    | (with_reducible refine then_normalI ?_)
    | (with_reducible refine then_retI ?_)
    | (with_reducible refine then_exitI ?_)
    | (with_reducible refine inBlock_normalI ?_)
    | (with_reducible refine inBlock_retI ?_)
    | (with_reducible refine inBlock_exitI ?_)
    | (with_reducible refine inBlock_exitN (by decide) ?_)
    | ((with_reducible refine bodyQ_normal0 ?_); (try simp only [EVB, Nat.reduceEqDiff, reduceIte]))
    | ((with_reducible refine bodyQ_normal1 ?_); (try simp only [EVB, Nat.reduceEqDiff, reduceIte]))
    | ((with_reducible refine bodyQ_normal2 ?_); (try simp only [EVB, Nat.reduceEqDiff, reduceIte]))
    | ((with_reducible refine bodyQ_normal3 ?_); (try simp only [EVB, Nat.reduceEqDiff, reduceIte]))
    | ((with_reducible refine bodyQ_normal4 ?_); (try simp only [EVB, Nat.reduceEqDiff, reduceIte]))
    | ((with_reducible refine bodyQ_ret0 ?_); (try simp only [EVB, Nat.reduceEqDiff, reduceIte]))
    | ((with_reducible refine bodyQ_ret1 ?_); (try simp only [EVB, Nat.reduceEqDiff, reduceIte]))
    | ((with_reducible refine bodyQ_ret2 ?_); (try simp only [EVB, Nat.reduceEqDiff, reduceIte]))
    | ((with_reducible refine bodyQ_ret3 ?_); (try simp only [EVB, Nat.reduceEqDiff, reduceIte]))
    | ((with_reducible refine bodyQ_ret4 ?_); (try simp only [EVB, Nat.reduceEqDiff, reduceIte]))
    | (with_reducible refine Cont.use (by assumption) ?_)
    | ((with_reducible show W _ _ (.cond _ _ _) _ _ _); refine W_condI (by simp (disch := first | ((with_reducible show isStop _ = false); rfl) | ((with_reducible show isP _ = true); rfl) | ((with_reducible show (isStop _ || isP _) = false); rfl) | assumption | (simp only [gt_some, gb_bool, gb_undef, EVB, Option.bind_some, Nat.reduceEqDiff, reduceIte, beq_self_eq_true, Bool.not_true, Bool.not_false, beq_true, beq_false]; done) | omega | (with_reducible decide) | (simp only [List.length_cons, List.length_nil, List.size_toArray, List.toList_toArray, List.all_cons, List.all_nil, Go.Proofs.YtdfgdpjlbcnkfaaDoorAbs.oneC, Bool.and_self, Go.Proofs.YtdfgdpjlbcnkfaaDoorAbs.St.next_push, Go.Proofs.YtdfgdpjlbcnkfaaDoorAbs.St.next_upd, Nat.zero_add, Nat.reduceAdd, Nat.reduceLeDiff, Nat.le_refl, Nat.zero_le] <;> omega)) only [↓DN, ↓reduceIte, UP, Int.reduceEq, Int.reduceLT, Int.reduceLE, Nat.reduceEqDiff, Nat.reduceAdd, Nat.reduceMul, Nat.reduceSub, Int.reduceToNat, Nat.reduceLeDiff, PF, isStop, isP, goInt, beq_self_eq_true, decide_true, decide_false, Int.toNat_natCast, nn_eq, nn_ne]; rfl) (fun ht => ?_) (fun ht => ?_) <;> (first | (simp only [Bool.true_eq_false, Bool.false_eq_true] at ht; done) | ((try simp only [Bool.not_eq_true', Bool.not_eq_false'] at ht); (try simp only [ht]); (try simp only [HTN] at ht); (try (exfalso; omega)))))
    | ((with_reducible refine W_regionI ?_); simp (disch := first | ((with_reducible show isStop _ = false); rfl) | ((with_reducible show isP _ = true); rfl) | ((with_reducible show (isStop _ || isP _) = false); rfl) | assumption | (simp only [gt_some, gb_bool, gb_undef, EVB, Option.bind_some, Nat.reduceEqDiff, reduceIte, beq_self_eq_true, Bool.not_true, Bool.not_false, beq_true, beq_false]; done) | omega | (with_reducible decide) | (simp only [List.length_cons, List.length_nil, List.size_toArray, List.toList_toArray, List.all_cons, List.all_nil, Go.Proofs.YtdfgdpjlbcnkfaaDoorAbs.oneC, Bool.and_self, Go.Proofs.YtdfgdpjlbcnkfaaDoorAbs.St.next_push, Go.Proofs.YtdfgdpjlbcnkfaaDoorAbs.St.next_upd, Nat.zero_add, Nat.reduceAdd, Nat.reduceLeDiff, Nat.le_refl, Nat.zero_le] <;> omega)) only [↓DN, ↓reduceIte, UP, Int.reduceEq, Int.reduceLT, Int.reduceLE, Nat.reduceEqDiff, Nat.reduceAdd, Nat.reduceMul, Nat.reduceSub, Int.reduceToNat, Nat.reduceLeDiff, PF, isStop, isP, goInt, beq_self_eq_true, decide_true, decide_false, Int.toNat_natCast, nn_eq, nn_ne])
    | ((first | (with_reducible show O _ _ _ _ _ _ _ _) | (with_reducible show OK _ _ _ _ _ _ _ _ _) | (with_reducible show OKF _ _ _ _ _ _ _ _ _ _) | (with_reducible show OKT _ _ _ _ _ _ _ _ _ _ _ _) | (with_reducible show _ ∧ _)); simp (disch := first | ((with_reducible show isStop _ = false); rfl) | ((with_reducible show isP _ = true); rfl) | ((with_reducible show (isStop _ || isP _) = false); rfl) | assumption | (simp only [gt_some, gb_bool, gb_undef, EVB, Option.bind_some, Nat.reduceEqDiff, reduceIte, beq_self_eq_true, Bool.not_true, Bool.not_false, beq_true, beq_false]; done) | omega | (with_reducible decide) | (simp only [List.length_cons, List.length_nil, List.size_toArray, List.toList_toArray, List.all_cons, List.all_nil, Go.Proofs.YtdfgdpjlbcnkfaaDoorAbs.oneC, Bool.and_self, Go.Proofs.YtdfgdpjlbcnkfaaDoorAbs.St.next_push, Go.Proofs.YtdfgdpjlbcnkfaaDoorAbs.St.next_upd, Nat.zero_add, Nat.reduceAdd, Nat.reduceLeDiff, Nat.le_refl, Nat.zero_le] <;> omega)) only [↓DN, ↓reduceIte, UP, Int.reduceEq, Int.reduceLT, Int.reduceLE, Nat.reduceEqDiff, Nat.reduceAdd, Nat.reduceMul, Nat.reduceSub, Int.reduceToNat, Nat.reduceLeDiff, PF, isStop, isP, goInt, beq_self_eq_true, decide_true, decide_false, Int.toNat_natCast, nn_eq, nn_ne])
    | ((with_reducible show O _ _ _ (⟨_, _, _, _, _, some _⟩ :: _) _ _ _ _); refine O_split (by simp (disch := first | ((with_reducible show isStop _ = false); rfl) | ((with_reducible show isP _ = true); rfl) | ((with_reducible show (isStop _ || isP _) = false); rfl) | assumption | (simp only [gt_some, gb_bool, gb_undef, EVB, Option.bind_some, Nat.reduceEqDiff, reduceIte, beq_self_eq_true, Bool.not_true, Bool.not_false, beq_true, beq_false]; done) | omega | (with_reducible decide) | (simp only [List.length_cons, List.length_nil, List.size_toArray, List.toList_toArray, List.all_cons, List.all_nil, Go.Proofs.YtdfgdpjlbcnkfaaDoorAbs.oneC, Bool.and_self, Go.Proofs.YtdfgdpjlbcnkfaaDoorAbs.St.next_push, Go.Proofs.YtdfgdpjlbcnkfaaDoorAbs.St.next_upd, Nat.zero_add, Nat.reduceAdd, Nat.reduceLeDiff, Nat.le_refl, Nat.zero_le] <;> omega)) only [↓DN, ↓reduceIte, UP, Int.reduceEq, Int.reduceLT, Int.reduceLE, Nat.reduceEqDiff, Nat.reduceAdd, Nat.reduceMul, Nat.reduceSub, Int.reduceToNat, Nat.reduceLeDiff, PF, isStop, isP, goInt, beq_self_eq_true, decide_true, decide_false, Int.toNat_natCast, nn_eq, nn_ne]; rfl) (fun ht => ?_) (fun ht => ?_) <;> (first | (simp only [Bool.true_eq_false, Bool.false_eq_true] at ht; done) | ((try simp only [Bool.not_eq_true', Bool.not_eq_false'] at ht); (try simp only [ht]); (try simp only [HTN] at ht); (try (exfalso; omega)))))
    | (exact hQ2 (by omega))
    | (exact hQ (by omega)))
def numF : Option Int → Int
  | none => 0
  | some c => c
theorem num_C (h : HI I) {e : Option Int} (hQ : Q (.int .i64 (numF e)) S) : C Tryd.prog I 13 #[errW e] S Q := by
  refine C_body (rs := [.tmp 2]) (h.no 13 (by decide)) Tryd.func13 rfl rfl ok13 ?_
  obtain ⟨u22, sz5, u5, u9, u3, u29, u34, u33, sz3, u4, u41, sz66, u46, sz28, u47, u52, sz22, sz62, sz24, sz59, u59, sz60, u60, sz41, sz58, u58, sz73, sz34, sz4, sz9, sz83, u88, sz86, u112, sz118, u118, u2, sz126, u126, u21, sz130, u130, u139, u140, sz141, u141, u145, u148, sz147, u154, u155⟩ := UF
  have ta : ∀ c : Int, atypeAssert Tryd.prog 58 true (.iface 58 (.int .i64 c)) = some (.tuple #[.int .i64 c, .bool true]) := fun c => by kernel_rfl
  have ki : kIface Tryd.prog 24 = true := ki24
  rcases e with _ | c
  · simp only [errW]
    repeat' (first
    | (with_reducible refine W_pushC fun K hK => ?_)
    | (with_reducible refine W_blockI ?_)
    | (with_reducible refine W_scopeI ?_)
    | (with_reducible refine W_labelI ?_)
    | (with_reducible refine W_skipI ?_)
    | (with_reducible refine W_retI ?_)
    | (with_reducible refine W_exitI ?_)
    | (with_reducible refine then_normalI ?_)
    | (with_reducible refine then_retI ?_)
    | (with_reducible refine then_exitI ?_)
    | (with_reducible refine inBlock_normalI ?_)
    | (with_reducible refine inBlock_retI ?_)
    | (with_reducible refine inBlock_exitI ?_)
    | (with_reducible refine inBlock_exitN (by decide) ?_)
    | ((with_reducible refine bodyQ_normal0 ?_); (try simp only [EVB, Nat.reduceEqDiff, reduceIte]))
    | ((with_reducible refine bodyQ_normal1 ?_); (try simp only [EVB, Nat.reduceEqDiff, reduceIte]))
    | ((with_reducible refine bodyQ_normal2 ?_); (try simp only [EVB, Nat.reduceEqDiff, reduceIte]))
    | ((with_reducible refine bodyQ_normal3 ?_); (try simp only [EVB, Nat.reduceEqDiff, reduceIte]))
    | ((with_reducible refine bodyQ_normal4 ?_); (try simp only [EVB, Nat.reduceEqDiff, reduceIte]))
    | ((with_reducible refine bodyQ_ret0 ?_); (try simp only [EVB, Nat.reduceEqDiff, reduceIte]))
    | ((with_reducible refine bodyQ_ret1 ?_); (try simp only [EVB, Nat.reduceEqDiff, reduceIte]))
    | ((with_reducible refine bodyQ_ret2 ?_); (try simp only [EVB, Nat.reduceEqDiff, reduceIte]))
    | ((with_reducible refine bodyQ_ret3 ?_); (try simp only [EVB, Nat.reduceEqDiff, reduceIte]))
    | ((with_reducible refine bodyQ_ret4 ?_); (try simp only [EVB, Nat.reduceEqDiff, reduceIte]))
    | (with_reducible refine Cont.use (by assumption) ?_)
    | ((with_reducible show W _ _ (.cond _ _ _) _ _ _); refine W_condI (by simp (disch := first | ((with_reducible show isStop _ = false); rfl) | ((with_reducible show isP _ = true); rfl) | ((with_reducible show (isStop _ || isP _) = false); rfl) | assumption | (simp only [gt_some, gb_bool, gb_undef, EVB, Option.bind_some, Nat.reduceEqDiff, reduceIte, beq_self_eq_true, Bool.not_true, Bool.not_false, beq_true, beq_false]; done) | omega | (with_reducible decide) | (simp only [List.length_cons, List.length_nil, List.size_toArray, List.toList_toArray, List.all_cons, List.all_nil, Go.Proofs.YtdfgdpjlbcnkfaaDoorAbs.oneC, Bool.and_self, Go.Proofs.YtdfgdpjlbcnkfaaDoorAbs.St.next_push, Go.Proofs.YtdfgdpjlbcnkfaaDoorAbs.St.next_upd, Nat.zero_add, Nat.reduceAdd, Nat.reduceLeDiff, Nat.le_refl, Nat.zero_le] <;> omega)) only [↓DN, ↓reduceIte, UP, Int.reduceEq, Int.reduceLT, Int.reduceLE, Nat.reduceEqDiff, Nat.reduceAdd, Nat.reduceMul, Nat.reduceSub, Int.reduceToNat, Nat.reduceLeDiff, PF, isStop, isP, goInt, beq_self_eq_true, decide_true, decide_false, Int.toNat_natCast, nn_eq, nn_ne]; rfl) (fun ht => ?_) (fun ht => ?_) <;> (first | (simp only [Bool.true_eq_false, Bool.false_eq_true] at ht; done) | ((try simp only [Bool.not_eq_true', Bool.not_eq_false'] at ht); (try simp only [ht]); (try simp only [HTN] at ht); (try (exfalso; omega)))))
    | ((with_reducible refine W_regionI ?_); simp (disch := first | ((with_reducible show isStop _ = false); rfl) | ((with_reducible show isP _ = true); rfl) | ((with_reducible show (isStop _ || isP _) = false); rfl) | assumption | (simp only [gt_some, gb_bool, gb_undef, EVB, Option.bind_some, Nat.reduceEqDiff, reduceIte, beq_self_eq_true, Bool.not_true, Bool.not_false, beq_true, beq_false]; done) | omega | (with_reducible decide) | (simp only [List.length_cons, List.length_nil, List.size_toArray, List.toList_toArray, List.all_cons, List.all_nil, Go.Proofs.YtdfgdpjlbcnkfaaDoorAbs.oneC, Bool.and_self, Go.Proofs.YtdfgdpjlbcnkfaaDoorAbs.St.next_push, Go.Proofs.YtdfgdpjlbcnkfaaDoorAbs.St.next_upd, Nat.zero_add, Nat.reduceAdd, Nat.reduceLeDiff, Nat.le_refl, Nat.zero_le] <;> omega)) only [↓DN, ↓reduceIte, UP, Int.reduceEq, Int.reduceLT, Int.reduceLE, Nat.reduceEqDiff, Nat.reduceAdd, Nat.reduceMul, Nat.reduceSub, Int.reduceToNat, Nat.reduceLeDiff, PF, isStop, isP, goInt, beq_self_eq_true, decide_true, decide_false, Int.toNat_natCast, nn_eq, nn_ne])
    | ((first | (with_reducible show O _ _ _ _ _ _ _ _) | (with_reducible show OK _ _ _ _ _ _ _ _ _) | (with_reducible show OKF _ _ _ _ _ _ _ _ _ _) | (with_reducible show OKT _ _ _ _ _ _ _ _ _ _ _ _) | (with_reducible show _ ∧ _)); simp (disch := first | ((with_reducible show isStop _ = false); rfl) | ((with_reducible show isP _ = true); rfl) | ((with_reducible show (isStop _ || isP _) = false); rfl) | assumption | (simp only [gt_some, gb_bool, gb_undef, EVB, Option.bind_some, Nat.reduceEqDiff, reduceIte, beq_self_eq_true, Bool.not_true, Bool.not_false, beq_true, beq_false]; done) | omega | (with_reducible decide) | (simp only [List.length_cons, List.length_nil, List.size_toArray, List.toList_toArray, List.all_cons, List.all_nil, Go.Proofs.YtdfgdpjlbcnkfaaDoorAbs.oneC, Bool.and_self, Go.Proofs.YtdfgdpjlbcnkfaaDoorAbs.St.next_push, Go.Proofs.YtdfgdpjlbcnkfaaDoorAbs.St.next_upd, Nat.zero_add, Nat.reduceAdd, Nat.reduceLeDiff, Nat.le_refl, Nat.zero_le] <;> omega)) only [↓DN, ↓reduceIte, UP, Int.reduceEq, Int.reduceLT, Int.reduceLE, Nat.reduceEqDiff, Nat.reduceAdd, Nat.reduceMul, Nat.reduceSub, Int.reduceToNat, Nat.reduceLeDiff, PF, isStop, isP, goInt, beq_self_eq_true, decide_true, decide_false, Int.toNat_natCast, nn_eq, nn_ne])
    | ((with_reducible show O _ _ _ (⟨_, _, _, _, _, some _⟩ :: _) _ _ _ _); refine O_split (by simp (disch := first | ((with_reducible show isStop _ = false); rfl) | ((with_reducible show isP _ = true); rfl) | ((with_reducible show (isStop _ || isP _) = false); rfl) | assumption | (simp only [gt_some, gb_bool, gb_undef, EVB, Option.bind_some, Nat.reduceEqDiff, reduceIte, beq_self_eq_true, Bool.not_true, Bool.not_false, beq_true, beq_false]; done) | omega | (with_reducible decide) | (simp only [List.length_cons, List.length_nil, List.size_toArray, List.toList_toArray, List.all_cons, List.all_nil, Go.Proofs.YtdfgdpjlbcnkfaaDoorAbs.oneC, Bool.and_self, Go.Proofs.YtdfgdpjlbcnkfaaDoorAbs.St.next_push, Go.Proofs.YtdfgdpjlbcnkfaaDoorAbs.St.next_upd, Nat.zero_add, Nat.reduceAdd, Nat.reduceLeDiff, Nat.le_refl, Nat.zero_le] <;> omega)) only [↓DN, ↓reduceIte, UP, Int.reduceEq, Int.reduceLT, Int.reduceLE, Nat.reduceEqDiff, Nat.reduceAdd, Nat.reduceMul, Nat.reduceSub, Int.reduceToNat, Nat.reduceLeDiff, PF, isStop, isP, goInt, beq_self_eq_true, decide_true, decide_false, Int.toNat_natCast, nn_eq, nn_ne]; rfl) (fun ht => ?_) (fun ht => ?_) <;> (first | (simp only [Bool.true_eq_false, Bool.false_eq_true] at ht; done) | ((try simp only [Bool.not_eq_true', Bool.not_eq_false'] at ht); (try simp only [ht]); (try simp only [HTN] at ht); (try (exfalso; omega)))))
    | (exact hQ))
  · simp only [errW]
    repeat' (first
    | (with_reducible refine W_pushC fun K hK => ?_)
    | (with_reducible refine W_blockI ?_)
    | (with_reducible refine W_scopeI ?_)
    | (with_reducible refine W_labelI ?_)
    | (with_reducible refine W_skipI ?_)
    | (with_reducible refine W_retI ?_)
    | (with_reducible refine W_exitI ?_)
    | (with_reducible refine then_normalI ?_)
    | (with_reducible refine then_retI ?_)
    | (with_reducible refine then_exitI ?_)
    | (with_reducible refine inBlock_normalI ?_)
    | (with_reducible refine inBlock_retI ?_)
    | (with_reducible refine inBlock_exitI ?_)
    | (with_reducible refine inBlock_exitN (by decide) ?_)
    | ((with_reducible refine bodyQ_normal0 ?_); (try simp only [EVB, Nat.reduceEqDiff, reduceIte]))
    | ((with_reducible refine bodyQ_normal1 ?_); (try simp only [EVB, Nat.reduceEqDiff, reduceIte]))
    | ((with_reducible refine bodyQ_normal2 ?_); (try simp only [EVB, Nat.reduceEqDiff, reduceIte]))
    | ((with_reducible refine bodyQ_normal3 ?_); (try simp only [EVB, Nat.reduceEqDiff, reduceIte]))
    | ((with_reducible refine bodyQ_normal4 ?_); (try simp only [EVB, Nat.reduceEqDiff, reduceIte]))
    | ((with_reducible refine bodyQ_ret0 ?_); (try simp only [EVB, Nat.reduceEqDiff, reduceIte]))
    | ((with_reducible refine bodyQ_ret1 ?_); (try simp only [EVB, Nat.reduceEqDiff, reduceIte]))
    | ((with_reducible refine bodyQ_ret2 ?_); (try simp only [EVB, Nat.reduceEqDiff, reduceIte]))
    | ((with_reducible refine bodyQ_ret3 ?_); (try simp only [EVB, Nat.reduceEqDiff, reduceIte]))
    | ((with_reducible refine bodyQ_ret4 ?_); (try simp only [EVB, Nat.reduceEqDiff, reduceIte]))
    | (with_reducible refine Cont.use (by assumption) ?_)
    | ((with_reducible show W _ _ (.cond _ _ _) _ _ _); refine W_condI (by simp (disch := first | ((with_reducible show isStop _ = false); rfl) | ((with_reducible show isP _ = true); rfl) | ((with_reducible show (isStop _ || isP _) = false); rfl) | assumption | (simp only [gt_some, gb_bool, gb_undef, EVB, Option.bind_some, Nat.reduceEqDiff, reduceIte, beq_self_eq_true, Bool.not_true, Bool.not_false, beq_true, beq_false]; done) | omega | (with_reducible decide) | (simp only [List.length_cons, List.length_nil, List.size_toArray, List.toList_toArray, List.all_cons, List.all_nil, Go.Proofs.YtdfgdpjlbcnkfaaDoorAbs.oneC, Bool.and_self, Go.Proofs.YtdfgdpjlbcnkfaaDoorAbs.St.next_push, Go.Proofs.YtdfgdpjlbcnkfaaDoorAbs.St.next_upd, Nat.zero_add, Nat.reduceAdd, Nat.reduceLeDiff, Nat.le_refl, Nat.zero_le] <;> omega)) only [↓DN, ↓reduceIte, UP, Int.reduceEq, Int.reduceLT, Int.reduceLE, Nat.reduceEqDiff, Nat.reduceAdd, Nat.reduceMul, Nat.reduceSub, Int.reduceToNat, Nat.reduceLeDiff, PF, isStop, isP, goInt, beq_self_eq_true, decide_true, decide_false, Int.toNat_natCast, nn_eq, nn_ne, ta]; rfl) (fun ht => ?_) (fun ht => ?_) <;> (first | (simp only [Bool.true_eq_false, Bool.false_eq_true] at ht; done) | ((try simp only [Bool.not_eq_true', Bool.not_eq_false'] at ht); (try simp only [ht]); (try simp only [HTN] at ht); (try (exfalso; omega)))))
    | ((with_reducible refine W_regionI ?_); simp (disch := first | ((with_reducible show isStop _ = false); rfl) | ((with_reducible show isP _ = true); rfl) | ((with_reducible show (isStop _ || isP _) = false); rfl) | assumption | (simp only [gt_some, gb_bool, gb_undef, EVB, Option.bind_some, Nat.reduceEqDiff, reduceIte, beq_self_eq_true, Bool.not_true, Bool.not_false, beq_true, beq_false]; done) | omega | (with_reducible decide) | (simp only [List.length_cons, List.length_nil, List.size_toArray, List.toList_toArray, List.all_cons, List.all_nil, Go.Proofs.YtdfgdpjlbcnkfaaDoorAbs.oneC, Bool.and_self, Go.Proofs.YtdfgdpjlbcnkfaaDoorAbs.St.next_push, Go.Proofs.YtdfgdpjlbcnkfaaDoorAbs.St.next_upd, Nat.zero_add, Nat.reduceAdd, Nat.reduceLeDiff, Nat.le_refl, Nat.zero_le] <;> omega)) only [↓DN, ↓reduceIte, UP, Int.reduceEq, Int.reduceLT, Int.reduceLE, Nat.reduceEqDiff, Nat.reduceAdd, Nat.reduceMul, Nat.reduceSub, Int.reduceToNat, Nat.reduceLeDiff, PF, isStop, isP, goInt, beq_self_eq_true, decide_true, decide_false, Int.toNat_natCast, nn_eq, nn_ne, ta])
    | ((first | (with_reducible show O _ _ _ _ _ _ _ _) | (with_reducible show OK _ _ _ _ _ _ _ _ _) | (with_reducible show OKF _ _ _ _ _ _ _ _ _ _) | (with_reducible show OKT _ _ _ _ _ _ _ _ _ _ _ _) | (with_reducible show _ ∧ _)); simp (disch := first | ((with_reducible show isStop _ = false); rfl) | ((with_reducible show isP _ = true); rfl) | ((with_reducible show (isStop _ || isP _) = false); rfl) | assumption | (simp only [gt_some, gb_bool, gb_undef, EVB, Option.bind_some, Nat.reduceEqDiff, reduceIte, beq_self_eq_true, Bool.not_true, Bool.not_false, beq_true, beq_false]; done) | omega | (with_reducible decide) | (simp only [List.length_cons, List.length_nil, List.size_toArray, List.toList_toArray, List.all_cons, List.all_nil, Go.Proofs.YtdfgdpjlbcnkfaaDoorAbs.oneC, Bool.and_self, Go.Proofs.YtdfgdpjlbcnkfaaDoorAbs.St.next_push, Go.Proofs.YtdfgdpjlbcnkfaaDoorAbs.St.next_upd, Nat.zero_add, Nat.reduceAdd, Nat.reduceLeDiff, Nat.le_refl, Nat.zero_le] <;> omega)) only [↓DN, ↓reduceIte, UP, Int.reduceEq, Int.reduceLT, Int.reduceLE, Nat.reduceEqDiff, Nat.reduceAdd, Nat.reduceMul, Nat.reduceSub, Int.reduceToNat, Nat.reduceLeDiff, PF, isStop, isP, goInt, beq_self_eq_true, decide_true, decide_false, Int.toNat_natCast, nn_eq, nn_ne, ta])
    | ((with_reducible show O _ _ _ (⟨_, _, _, _, _, some _⟩ :: _) _ _ _ _); refine O_split (by simp (disch := first | ((with_reducible show isStop _ = false); rfl) | ((with_reducible show isP _ = true); rfl) | ((with_reducible show (isStop _ || isP _) = false); rfl) | assumption | (simp only [gt_some, gb_bool, gb_undef, EVB, Option.bind_some, Nat.reduceEqDiff, reduceIte, beq_self_eq_true, Bool.not_true, Bool.not_false, beq_true, beq_false]; done) | omega | (with_reducible decide) | (simp only [List.length_cons, List.length_nil, List.size_toArray, List.toList_toArray, List.all_cons, List.all_nil, Go.Proofs.YtdfgdpjlbcnkfaaDoorAbs.oneC, Bool.and_self, Go.Proofs.YtdfgdpjlbcnkfaaDoorAbs.St.next_push, Go.Proofs.YtdfgdpjlbcnkfaaDoorAbs.St.next_upd, Nat.zero_add, Nat.reduceAdd, Nat.reduceLeDiff, Nat.le_refl, Nat.zero_le] <;> omega)) only [↓DN, ↓reduceIte, UP, Int.reduceEq, Int.reduceLT, Int.reduceLE, Nat.reduceEqDiff, Nat.reduceAdd, Nat.reduceMul, Nat.reduceSub, Int.reduceToNat, Nat.reduceLeDiff, PF, isStop, isP, goInt, beq_self_eq_true, decide_true, decide_false, Int.toNat_natCast, nn_eq, nn_ne, ta]; rfl) (fun ht => ?_) (fun ht => ?_) <;> (first | (simp only [Bool.true_eq_false, Bool.false_eq_true] at ht; done) | ((try simp only [Bool.not_eq_true', Bool.not_eq_false'] at ht); (try simp only [ht]); (try simp only [HTN] at ht); (try (exfalso; omega)))))
    | (exact hQ))
theorem twin_C (h : HI I) {v : Value} {xs : List UInt8} (hx : Sl S v xs) (hn : xs.length ≤ 1099511627776)
    (hQ : ∀ v' S', Own 5 1 S' v' xs.length (u8v xs) → Kept S S' none → (∀ i, blkOf v' = some i → S.next ≤ i) → Q v' S') : C Tryd.prog I 16 #[v] S Q := by
  refine C_body (rs := [.tmp 2]) (h.no 16 (by decide)) Tryd.func16 rfl rfl ok16 ?_
  obtain ⟨u22, sz5, u5, u9, u3, u29, u34, u33, sz3, u4, u41, sz66, u46, sz28, u47, u52, sz22, sz62, sz24, sz59, u59, sz60, u60, sz41, sz58, u58, sz73, sz34, sz4, sz9, sz83, u88, sz86, u112, sz118, u118, u2, sz126, u126, u21, sz130, u130, u139, u140, sz141, u141, u145, u148, sz147, u154, u155⟩ := UF
  have hsrc : asrc Tryd.prog S 22 1 v = some (xs.length, u8v xs) := by
    obtain ⟨a, c, rfl, hv0, hv⟩ := hx
    by_cases hne : xs = []
    · subst hne
      rcases a with _ | ⟨b, o, L⟩
      · rw [hv0 rfl]; simp [asrc, u22, u8v]
      · simp [asrc, u22, u8v]
    · obtain ⟨b, o, L, cs, el, own, m, rfl, _, h1, h2, h3, h4⟩ := hv hne
      have hpos : 0 < xs.length := List.length_pos_iff.2 hne
      simp only [asrc, u22]
      rw [if_neg (by omega)]
      have : aread S ⟨b, o, some L⟩ (xs.length * 1) = some (u8v xs) := by
        have hlen := congrArg List.length h3
        simp [u8v] at hlen
        unfold aread
        simp only [h1]
        rw [if_pos ⟨fun q => ⟨(h2 q).1, by have := (h2 q).2; show o + xs.length * 1 ≤ L; omega⟩, by show o + xs.length * 1 ≤ cs.length; omega⟩, Nat.mul_one, h3]
      simp only [this]
      rw [if_pos (u8v_one _)]
  repeat' (first
    | (with_reducible refine W_pushC fun K hK => ?_)
    | (with_reducible refine W_blockI ?_)
    | (with_reducible refine W_scopeI ?_)
    | (with_reducible refine W_labelI ?_)
    | (with_reducible refine W_skipI ?_)
    | (with_reducible refine W_retI ?_)
    | (with_reducible refine W_exitI ?_)
    | (with_reducible refine then_normalI ?_)
    | (with_reducible refine then_retI ?_)
    | (with_reducible refine then_exitI ?_)
    | (with_reducible refine inBlock_normalI ?_)
    | (with_reducible refine inBlock_retI ?_)
    | (with_reducible refine inBlock_exitI ?_)
    | (with_reducible refine inBlock_exitN (by decide) ?_)
    | ((with_reducible refine bodyQ_normal0 ?_); (try simp only [EVB, Nat.reduceEqDiff, reduceIte]))
    | ((with_reducible refine bodyQ_normal1 ?_); (try simp only [EVB, Nat.reduceEqDiff, reduceIte]))
    | ((with_reducible refine bodyQ_normal2 ?_); (try simp only [EVB, Nat.reduceEqDiff, reduceIte]))
    | ((with_reducible refine bodyQ_normal3 ?_); (try simp only [EVB, Nat.reduceEqDiff, reduceIte]))
    | ((with_reducible refine bodyQ_normal4 ?_); (try simp only [EVB, Nat.reduceEqDiff, reduceIte]))
    | ((with_reducible refine bodyQ_ret0 ?_); (try simp only [EVB, Nat.reduceEqDiff, reduceIte]))
    | ((with_reducible refine bodyQ_ret1 ?_); (try simp only [EVB, Nat.reduceEqDiff, reduceIte]))
    | ((with_reducible refine bodyQ_ret2 ?_); (try simp only [EVB, Nat.reduceEqDiff, reduceIte]))
    | ((with_reducible refine bodyQ_ret3 ?_); (try simp only [EVB, Nat.reduceEqDiff, reduceIte]))
    | ((with_reducible refine bodyQ_ret4 ?_); (try simp only [EVB, Nat.reduceEqDiff, reduceIte]))
    | (with_reducible refine Cont.use (by assumption) ?_)
    | ((with_reducible show W _ _ (.cond _ _ _) _ _ _); refine W_condI (by simp (disch := first | ((with_reducible show isStop _ = false); rfl) | ((with_reducible show isP _ = true); rfl) | ((with_reducible show (isStop _ || isP _) = false); rfl) | assumption | (simp only [gt_some, gb_bool, gb_undef, EVB, Option.bind_some, Nat.reduceEqDiff, reduceIte, beq_self_eq_true, Bool.not_true, Bool.not_false, beq_true, beq_false]; done) | omega | (with_reducible decide) | (simp only [List.length_cons, List.length_nil, List.size_toArray, List.toList_toArray, List.all_cons, List.all_nil, Go.Proofs.YtdfgdpjlbcnkfaaDoorAbs.oneC, Bool.and_self, Go.Proofs.YtdfgdpjlbcnkfaaDoorAbs.St.next_push, Go.Proofs.YtdfgdpjlbcnkfaaDoorAbs.St.next_upd, Nat.zero_add, Nat.reduceAdd, Nat.reduceLeDiff, Nat.le_refl, Nat.zero_le] <;> omega)) only [↓DN, ↓reduceIte, UP, Int.reduceEq, Int.reduceLT, Int.reduceLE, Nat.reduceEqDiff, Nat.reduceAdd, Nat.reduceMul, Nat.reduceSub, Int.reduceToNat, Nat.reduceLeDiff, PF, isStop, isP, goInt, beq_self_eq_true, decide_true, decide_false, Int.toNat_natCast, nn_eq, nn_ne]; rfl) (fun ht => ?_) (fun ht => ?_) <;> (first | (simp only [Bool.true_eq_false, Bool.false_eq_true] at ht; done) | ((try simp only [Bool.not_eq_true', Bool.not_eq_false'] at ht); (try simp only [ht]); (try simp only [HTN] at ht); (try (exfalso; omega)))))
    | ((with_reducible refine W_regionI ?_); simp (disch := first | ((with_reducible show isStop _ = false); rfl) | ((with_reducible show isP _ = true); rfl) | ((with_reducible show (isStop _ || isP _) = false); rfl) | assumption | (simp only [gt_some, gb_bool, gb_undef, EVB, Option.bind_some, Nat.reduceEqDiff, reduceIte, beq_self_eq_true, Bool.not_true, Bool.not_false, beq_true, beq_false]; done) | omega | (with_reducible decide) | (simp only [List.length_cons, List.length_nil, List.size_toArray, List.toList_toArray, List.all_cons, List.all_nil, Go.Proofs.YtdfgdpjlbcnkfaaDoorAbs.oneC, Bool.and_self, Go.Proofs.YtdfgdpjlbcnkfaaDoorAbs.St.next_push, Go.Proofs.YtdfgdpjlbcnkfaaDoorAbs.St.next_upd, Nat.zero_add, Nat.reduceAdd, Nat.reduceLeDiff, Nat.le_refl, Nat.zero_le] <;> omega)) only [↓DN, ↓reduceIte, UP, Int.reduceEq, Int.reduceLT, Int.reduceLE, Nat.reduceEqDiff, Nat.reduceAdd, Nat.reduceMul, Nat.reduceSub, Int.reduceToNat, Nat.reduceLeDiff, PF, isStop, isP, goInt, beq_self_eq_true, decide_true, decide_false, Int.toNat_natCast, nn_eq, nn_ne])
    | ((first | (with_reducible show O _ _ _ _ _ _ _ _) | (with_reducible show OK _ _ _ _ _ _ _ _ _) | (with_reducible show OKF _ _ _ _ _ _ _ _ _ _) | (with_reducible show OKT _ _ _ _ _ _ _ _ _ _ _ _) | (with_reducible show _ ∧ _)); simp (disch := first | ((with_reducible show isStop _ = false); rfl) | ((with_reducible show isP _ = true); rfl) | ((with_reducible show (isStop _ || isP _) = false); rfl) | assumption | (simp only [gt_some, gb_bool, gb_undef, EVB, Option.bind_some, Nat.reduceEqDiff, reduceIte, beq_self_eq_true, Bool.not_true, Bool.not_false, beq_true, beq_false]; done) | omega | (with_reducible decide) | (simp only [List.length_cons, List.length_nil, List.size_toArray, List.toList_toArray, List.all_cons, List.all_nil, Go.Proofs.YtdfgdpjlbcnkfaaDoorAbs.oneC, Bool.and_self, Go.Proofs.YtdfgdpjlbcnkfaaDoorAbs.St.next_push, Go.Proofs.YtdfgdpjlbcnkfaaDoorAbs.St.next_upd, Nat.zero_add, Nat.reduceAdd, Nat.reduceLeDiff, Nat.le_refl, Nat.zero_le] <;> omega)) only [↓DN, ↓reduceIte, UP, Int.reduceEq, Int.reduceLT, Int.reduceLE, Nat.reduceEqDiff, Nat.reduceAdd, Nat.reduceMul, Nat.reduceSub, Int.reduceToNat, Nat.reduceLeDiff, PF, isStop, isP, goInt, beq_self_eq_true, decide_true, decide_false, Int.toNat_natCast, nn_eq, nn_ne])
    | ((with_reducible show O _ _ _ (⟨_, _, _, _, _, some _⟩ :: _) _ _ _ _); refine O_split (by simp (disch := first | ((with_reducible show isStop _ = false); rfl) | ((with_reducible show isP _ = true); rfl) | ((with_reducible show (isStop _ || isP _) = false); rfl) | assumption | (simp only [gt_some, gb_bool, gb_undef, EVB, Option.bind_some, Nat.reduceEqDiff, reduceIte, beq_self_eq_true, Bool.not_true, Bool.not_false, beq_true, beq_false]; done) | omega | (with_reducible decide) | (simp only [List.length_cons, List.length_nil, List.size_toArray, List.toList_toArray, List.all_cons, List.all_nil, Go.Proofs.YtdfgdpjlbcnkfaaDoorAbs.oneC, Bool.and_self, Go.Proofs.YtdfgdpjlbcnkfaaDoorAbs.St.next_push, Go.Proofs.YtdfgdpjlbcnkfaaDoorAbs.St.next_upd, Nat.zero_add, Nat.reduceAdd, Nat.reduceLeDiff, Nat.le_refl, Nat.zero_le] <;> omega)) only [↓DN, ↓reduceIte, UP, Int.reduceEq, Int.reduceLT, Int.reduceLE, Nat.reduceEqDiff, Nat.reduceAdd, Nat.reduceMul, Nat.reduceSub, Int.reduceToNat, Nat.reduceLeDiff, PF, isStop, isP, goInt, beq_self_eq_true, decide_true, decide_false, Int.toNat_natCast, nn_eq, nn_ne]; rfl) (fun ht => ?_) (fun ht => ?_) <;> (first | (simp only [Bool.true_eq_false, Bool.false_eq_true] at ht; done) | ((try simp only [Bool.not_eq_true', Bool.not_eq_false'] at ht); (try simp only [ht]); (try simp only [HTN] at ht); (try (exfalso; omega))))))
  refine O_append (P := Tryd.prog) (elem := 5) (size := 1) (bytes := 1) (n := 0) (m := xs.length) (xs := []) (ys := u8v xs) u22 sz5 by5 ze5 ⟨by decide, by decide, rfl⟩ (by simp only [EVB, Nat.reduceEqDiff, reduceIte]; exact Own.nil _ _ _) (by simp only [EVB, Nat.reduceEqDiff, reduceIte]; exact hsrc) ⟨by simp [u8v], u8v_one _⟩ (by omega) fun v1 S1 hO hKp hB => ?_
  (try simp only [EVB, Nat.reduceEqDiff, reduceIte] at hKp hB)
  rw [Nat.zero_add, List.nil_append] at hO
  have hnew : ∀ i, blkOf v1 = some i → S.next ≤ i := by
    intro i hi
    rcases hB with q | ⟨j, q1, q2⟩
    · rw [q] at hi; cases hi
    · rw [q2] at hi; cases hi; exact q1
  repeat' (first
    | (with_reducible refine W_pushC fun K hK => ?_)
    | (with_reducible refine W_blockI ?_)
    | (with_reducible refine W_scopeI ?_)
    | (with_reducible refine W_labelI ?_)
    | (with_reducible refine W_skipI ?_)
    | (with_reducible refine W_retI ?_)
    | (with_reducible refine W_exitI ?_)
    | (with_reducible refine then_normalI ?_)
    | (with_reducible refine then_retI ?_)
    | (with_reducible refine then_exitI ?_)
    | (with_reducible refine inBlock_normalI ?_)
    | (with_reducible refine inBlock_retI ?_)
    | (with_reducible refine inBlock_exitI ?_)
    | (with_reducible refine inBlock_exitN (by decide) ?_)
    | ((with_reducible refine bodyQ_normal0 ?_); (try simp only [EVB, Nat.reduceEqDiff, reduceIte]))
    | ((with_reducible refine bodyQ_normal1 ?_); (try simp only [EVB, Nat.reduceEqDiff, reduceIte]))
    | ((with_reducible refine bodyQ_normal2 ?_); (try simp only [EVB, Nat.reduceEqDiff, reduceIte]))
    | ((with_reducible refine bodyQ_normal3 ?_); (try simp only [EVB, Nat.reduceEqDiff, reduceIte]))
    | ((with_reducible refine bodyQ_normal4 ?_); (try simp only [EVB, Nat.reduceEqDiff, reduceIte]))
    | ((with_reducible refine bodyQ_ret0 ?_); (try simp only [EVB, Nat.reduceEqDiff, reduceIte]))
    | ((with_reducible refine bodyQ_ret1 ?_); (try simp only [EVB, Nat.reduceEqDiff, reduceIte]))
    | ((with_reducible refine bodyQ_ret2 ?_); (try simp only [EVB, Nat.reduceEqDiff, reduceIte]))
    | ((with_reducible refine bodyQ_ret3 ?_); (try simp only [EVB, Nat.reduceEqDiff, reduceIte]))
    | ((with_reducible refine bodyQ_ret4 ?_); (try simp only [EVB, Nat.reduceEqDiff, reduceIte]))
    | (with_reducible refine Cont.use (by assumption) ?_)
    | ((with_reducible show W _ _ (.cond _ _ _) _ _ _); refine W_condI (by simp (disch := first | ((with_reducible show isStop _ = false); rfl) | ((with_reducible show isP _ = true); rfl) | ((with_reducible show (isStop _ || isP _) = false); rfl) | assumption | (simp only [gt_some, gb_bool, gb_undef, EVB, Option.bind_some, Nat.reduceEqDiff, reduceIte, beq_self_eq_true, Bool.not_true, Bool.not_false, beq_true, beq_false]; done) | omega | (with_reducible decide) | (simp only [List.length_cons, List.length_nil, List.size_toArray, List.toList_toArray, List.all_cons, List.all_nil, Go.Proofs.YtdfgdpjlbcnkfaaDoorAbs.oneC, Bool.and_self, Go.Proofs.YtdfgdpjlbcnkfaaDoorAbs.St.next_push, Go.Proofs.YtdfgdpjlbcnkfaaDoorAbs.St.next_upd, Nat.zero_add, Nat.reduceAdd, Nat.reduceLeDiff, Nat.le_refl, Nat.zero_le] <;> omega)) only [↓DN, ↓reduceIte, UP, Int.reduceEq, Int.reduceLT, Int.reduceLE, Nat.reduceEqDiff, Nat.reduceAdd, Nat.reduceMul, Nat.reduceSub, Int.reduceToNat, Nat.reduceLeDiff, PF, isStop, isP, goInt, beq_self_eq_true, decide_true, decide_false, Int.toNat_natCast, nn_eq, nn_ne]; rfl) (fun ht => ?_) (fun ht => ?_) <;> (first | (simp only [Bool.true_eq_false, Bool.false_eq_true] at ht; done) | ((try simp only [Bool.not_eq_true', Bool.not_eq_false'] at ht); (try simp only [ht]); (try simp only [HTN] at ht); (try (exfalso; omega)))))
    | ((with_reducible refine W_regionI ?_); simp (disch := first | ((with_reducible show isStop _ = false); rfl) | ((with_reducible show isP _ = true); rfl) | ((with_reducible show (isStop _ || isP _) = false); rfl) | assumption | (simp only [gt_some, gb_bool, gb_undef, EVB, Option.bind_some, Nat.reduceEqDiff, reduceIte, beq_self_eq_true, Bool.not_true, Bool.not_false, beq_true, beq_false]; done) | omega | (with_reducible decide) | (simp only [List.length_cons, List.length_nil, List.size_toArray, List.toList_toArray, List.all_cons, List.all_nil, Go.Proofs.YtdfgdpjlbcnkfaaDoorAbs.oneC, Bool.and_self, Go.Proofs.YtdfgdpjlbcnkfaaDoorAbs.St.next_push, Go.Proofs.YtdfgdpjlbcnkfaaDoorAbs.St.next_upd, Nat.zero_add, Nat.reduceAdd, Nat.reduceLeDiff, Nat.le_refl, Nat.zero_le] <;> omega)) only [↓DN, ↓reduceIte, UP, Int.reduceEq, Int.reduceLT, Int.reduceLE, Nat.reduceEqDiff, Nat.reduceAdd, Nat.reduceMul, Nat.reduceSub, Int.reduceToNat, Nat.reduceLeDiff, PF, isStop, isP, goInt, beq_self_eq_true, decide_true, decide_false, Int.toNat_natCast, nn_eq, nn_ne])
    | ((first | (with_reducible show O _ _ _ _ _ _ _ _) | (with_reducible show OK _ _ _ _ _ _ _ _ _) | (with_reducible show OKF _ _ _ _ _ _ _ _ _ _) | (with_reducible show OKT _ _ _ _ _ _ _ _ _ _ _ _) | (with_reducible show _ ∧ _)); simp (disch := first | ((with_reducible show isStop _ = false); rfl) | ((with_reducible show isP _ = true); rfl) | ((with_reducible show (isStop _ || isP _) = false); rfl) | assumption | (simp only [gt_some, gb_bool, gb_undef, EVB, Option.bind_some, Nat.reduceEqDiff, reduceIte, beq_self_eq_true, Bool.not_true, Bool.not_false, beq_true, beq_false]; done) | omega | (with_reducible decide) | (simp only [List.length_cons, List.length_nil, List.size_toArray, List.toList_toArray, List.all_cons, List.all_nil, Go.Proofs.YtdfgdpjlbcnkfaaDoorAbs.oneC, Bool.and_self, Go.Proofs.YtdfgdpjlbcnkfaaDoorAbs.St.next_push, Go.Proofs.YtdfgdpjlbcnkfaaDoorAbs.St.next_upd, Nat.zero_add, Nat.reduceAdd, Nat.reduceLeDiff, Nat.le_refl, Nat.zero_le] <;> omega)) only [↓DN, ↓reduceIte, UP, Int.reduceEq, Int.reduceLT, Int.reduceLE, Nat.reduceEqDiff, Nat.reduceAdd, Nat.reduceMul, Nat.reduceSub, Int.reduceToNat, Nat.reduceLeDiff, PF, isStop, isP, goInt, beq_self_eq_true, decide_true, decide_false, Int.toNat_natCast, nn_eq, nn_ne])
    | ((with_reducible show O _ _ _ (⟨_, _, _, _, _, some _⟩ :: _) _ _ _ _); refine O_split (by simp (disch := first | ((with_reducible show isStop _ = false); rfl) | ((with_reducible show isP _ = true); rfl) | ((with_reducible show (isStop _ || isP _) = false); rfl) | assumption | (simp only [gt_some, gb_bool, gb_undef, EVB, Option.bind_some, Nat.reduceEqDiff, reduceIte, beq_self_eq_true, Bool.not_true, Bool.not_false, beq_true, beq_false]; done) | omega | (with_reducible decide) | (simp only [List.length_cons, List.length_nil, List.size_toArray, List.toList_toArray, List.all_cons, List.all_nil, Go.Proofs.YtdfgdpjlbcnkfaaDoorAbs.oneC, Bool.and_self, Go.Proofs.YtdfgdpjlbcnkfaaDoorAbs.St.next_push, Go.Proofs.YtdfgdpjlbcnkfaaDoorAbs.St.next_upd, Nat.zero_add, Nat.reduceAdd, Nat.reduceLeDiff, Nat.le_refl, Nat.zero_le] <;> omega)) only [↓DN, ↓reduceIte, UP, Int.reduceEq, Int.reduceLT, Int.reduceLE, Nat.reduceEqDiff, Nat.reduceAdd, Nat.reduceMul, Nat.reduceSub, Int.reduceToNat, Nat.reduceLeDiff, PF, isStop, isP, goInt, beq_self_eq_true, decide_true, decide_false, Int.toNat_natCast, nn_eq, nn_ne]; rfl) (fun ht => ?_) (fun ht => ?_) <;> (first | (simp only [Bool.true_eq_false, Bool.false_eq_true] at ht; done) | ((try simp only [Bool.not_eq_true', Bool.not_eq_false'] at ht); (try simp only [ht]); (try simp only [HTN] at ht); (try (exfalso; omega)))))
    | (exact hQ _ _ hO hKp hnew))
/-- slices.Clone of fields. -/
theorem CloneF_C (h : HI I) {v : Value} {xs : List Fld} (hO : Own 66 2 S v xs.length (fldv xs)) (hn : xs.length ≤ 1048576)
    (hQ : ∀ v' S', Own 66 2 S' v' xs.length (fldv xs) → Kept S S' none → (∀ i, blkOf v' = some i → S.next ≤ i) → Q v' S') : C Tryd.prog I 33 #[v] S Q := by
  refine C_body (rs := [.tmp 2]) (h.no 33 (by decide)) Tryd.func33 rfl rfl ok33 ?_
  obtain ⟨u22, sz5, u5, u9, u3, u29, u34, u33, sz3, u4, u41, sz66, u46, sz28, u47, u52, sz22, sz62, sz24, sz59, u59, sz60, u60, sz41, sz58, u58, sz73, sz34, sz4, sz9, sz83, u88, sz86, u112, sz118, u118, u2, sz126, u126, u21, sz130, u130, u139, u140, sz141, u141, u145, u148, sz147, u154, u155⟩ := UF
  by_cases h0 : xs.length = 0
  · have hv : v = .slice none 0 0 := by
      rcases hO.2.2 with ⟨e, _⟩ | ⟨b, m, _, _, _, _, q⟩
      · exact e
      · omega
    subst hv
    repeat' (first
    | (with_reducible refine W_pushC fun K hK => ?_)
    | (with_reducible refine W_blockI ?_)
    | (with_reducible refine W_scopeI ?_)
    | (with_reducible refine W_labelI ?_)
    | (with_reducible refine W_skipI ?_)
    | (with_reducible refine W_retI ?_)
    | (with_reducible refine W_exitI ?_)
    | (with_reducible refine then_normalI ?_)
    | (with_reducible refine then_retI ?_)
    | (with_reducible refine then_exitI ?_)
    | (with_reducible refine inBlock_normalI ?_)
    | (with_reducible refine inBlock_retI ?_)
    | (with_reducible refine inBlock_exitI ?_)
    | (with_reducible refine inBlock_exitN (by decide) ?_)
    | ((with_reducible refine bodyQ_normal0 ?_); (try simp only [EVB, Nat.reduceEqDiff, reduceIte]))
    | ((with_reducible refine bodyQ_normal1 ?_); (try simp only [EVB, Nat.reduceEqDiff, reduceIte]))
    | ((with_reducible refine bodyQ_normal2 ?_); (try simp only [EVB, Nat.reduceEqDiff, reduceIte]))
    | ((with_reducible refine bodyQ_normal3 ?_); (try simp only [EVB, Nat.reduceEqDiff, reduceIte]))
    | ((with_reducible refine bodyQ_normal4 ?_); (try simp only [EVB, Nat.reduceEqDiff, reduceIte]))
    | ((with_reducible refine bodyQ_ret0 ?_); (try simp only [EVB, Nat.reduceEqDiff, reduceIte]))
    | ((with_reducible refine bodyQ_ret1 ?_); (try simp only [EVB, Nat.reduceEqDiff, reduceIte]))
    | ((with_reducible refine bodyQ_ret2 ?_); (try simp only [EVB, Nat.reduceEqDiff, reduceIte]))
    | ((with_reducible refine bodyQ_ret3 ?_); (try simp only [EVB, Nat.reduceEqDiff, reduceIte]))
    | ((with_reducible refine bodyQ_ret4 ?_); (try simp only [EVB, Nat.reduceEqDiff, reduceIte]))
    | (with_reducible refine Cont.use (by assumption) ?_)
    | ((with_reducible show W _ _ (.cond _ _ _) _ _ _); refine W_condI (by simp (disch := first | ((with_reducible show isStop _ = false); rfl) | ((with_reducible show isP _ = true); rfl) | ((with_reducible show (isStop _ || isP _) = false); rfl) | assumption | (simp only [gt_some, gb_bool, gb_undef, EVB, Option.bind_some, Nat.reduceEqDiff, reduceIte, beq_self_eq_true, Bool.not_true, Bool.not_false, beq_true, beq_false]; done) | omega | (with_reducible decide) | (simp only [List.length_cons, List.length_nil, List.size_toArray, List.toList_toArray, List.all_cons, List.all_nil, Go.Proofs.YtdfgdpjlbcnkfaaDoorAbs.oneC, Bool.and_self, Go.Proofs.YtdfgdpjlbcnkfaaDoorAbs.St.next_push, Go.Proofs.YtdfgdpjlbcnkfaaDoorAbs.St.next_upd, Nat.zero_add, Nat.reduceAdd, Nat.reduceLeDiff, Nat.le_refl, Nat.zero_le] <;> omega)) only [↓DN, ↓reduceIte, UP, Int.reduceEq, Int.reduceLT, Int.reduceLE, Nat.reduceEqDiff, Nat.reduceAdd, Nat.reduceMul, Nat.reduceSub, Int.reduceToNat, Nat.reduceLeDiff, PF, isStop, isP, goInt, beq_self_eq_true, decide_true, decide_false, Int.toNat_natCast, nn_eq, nn_ne, nsl_eq]; rfl) (fun ht => ?_) (fun ht => ?_) <;> (first | (simp only [Bool.true_eq_false, Bool.false_eq_true] at ht; done) | ((try simp only [Bool.not_eq_true', Bool.not_eq_false'] at ht); (try simp only [ht]); (try simp only [HTN] at ht); (try (exfalso; omega)))))
    | ((with_reducible refine W_regionI ?_); simp (disch := first | ((with_reducible show isStop _ = false); rfl) | ((with_reducible show isP _ = true); rfl) | ((with_reducible show (isStop _ || isP _) = false); rfl) | assumption | (simp only [gt_some, gb_bool, gb_undef, EVB, Option.bind_some, Nat.reduceEqDiff, reduceIte, beq_self_eq_true, Bool.not_true, Bool.not_false, beq_true, beq_false]; done) | omega | (with_reducible decide) | (simp only [List.length_cons, List.length_nil, List.size_toArray, List.toList_toArray, List.all_cons, List.all_nil, Go.Proofs.YtdfgdpjlbcnkfaaDoorAbs.oneC, Bool.and_self, Go.Proofs.YtdfgdpjlbcnkfaaDoorAbs.St.next_push, Go.Proofs.YtdfgdpjlbcnkfaaDoorAbs.St.next_upd, Nat.zero_add, Nat.reduceAdd, Nat.reduceLeDiff, Nat.le_refl, Nat.zero_le] <;> omega)) only [↓DN, ↓reduceIte, UP, Int.reduceEq, Int.reduceLT, Int.reduceLE, Nat.reduceEqDiff, Nat.reduceAdd, Nat.reduceMul, Nat.reduceSub, Int.reduceToNat, Nat.reduceLeDiff, PF, isStop, isP, goInt, beq_self_eq_true, decide_true, decide_false, Int.toNat_natCast, nn_eq, nn_ne, nsl_eq])
    | ((first | (with_reducible show O _ _ _ _ _ _ _ _) | (with_reducible show OK _ _ _ _ _ _ _ _ _) | (with_reducible show OKF _ _ _ _ _ _ _ _ _ _) | (with_reducible show OKT _ _ _ _ _ _ _ _ _ _ _ _) | (with_reducible show _ ∧ _)); simp (disch := first | ((with_reducible show isStop _ = false); rfl) | ((with_reducible show isP _ = true); rfl) | ((with_reducible show (isStop _ || isP _) = false); rfl) | assumption | (simp only [gt_some, gb_bool, gb_undef, EVB, Option.bind_some, Nat.reduceEqDiff, reduceIte, beq_self_eq_true, Bool.not_true, Bool.not_false, beq_true, beq_false]; done) | omega | (with_reducible decide) | (simp only [List.length_cons, List.length_nil, List.size_toArray, List.toList_toArray, List.all_cons, List.all_nil, Go.Proofs.YtdfgdpjlbcnkfaaDoorAbs.oneC, Bool.and_self, Go.Proofs.YtdfgdpjlbcnkfaaDoorAbs.St.next_push, Go.Proofs.YtdfgdpjlbcnkfaaDoorAbs.St.next_upd, Nat.zero_add, Nat.reduceAdd, Nat.reduceLeDiff, Nat.le_refl, Nat.zero_le] <;> omega)) only [↓DN, ↓reduceIte, UP, Int.reduceEq, Int.reduceLT, Int.reduceLE, Nat.reduceEqDiff, Nat.reduceAdd, Nat.reduceMul, Nat.reduceSub, Int.reduceToNat, Nat.reduceLeDiff, PF, isStop, isP, goInt, beq_self_eq_true, decide_true, decide_false, Int.toNat_natCast, nn_eq, nn_ne, nsl_eq])
    | ((with_reducible show O _ _ _ (⟨_, _, _, _, _, some _⟩ :: _) _ _ _ _); refine O_split (by simp (disch := first | ((with_reducible show isStop _ = false); rfl) | ((with_reducible show isP _ = true); rfl) | ((with_reducible show (isStop _ || isP _) = false); rfl) | assumption | (simp only [gt_some, gb_bool, gb_undef, EVB, Option.bind_some, Nat.reduceEqDiff, reduceIte, beq_self_eq_true, Bool.not_true, Bool.not_false, beq_true, beq_false]; done) | omega | (with_reducible decide) | (simp only [List.length_cons, List.length_nil, List.size_toArray, List.toList_toArray, List.all_cons, List.all_nil, Go.Proofs.YtdfgdpjlbcnkfaaDoorAbs.oneC, Bool.and_self, Go.Proofs.YtdfgdpjlbcnkfaaDoorAbs.St.next_push, Go.Proofs.YtdfgdpjlbcnkfaaDoorAbs.St.next_upd, Nat.zero_add, Nat.reduceAdd, Nat.reduceLeDiff, Nat.le_refl, Nat.zero_le] <;> omega)) only [↓DN, ↓reduceIte, UP, Int.reduceEq, Int.reduceLT, Int.reduceLE, Nat.reduceEqDiff, Nat.reduceAdd, Nat.reduceMul, Nat.reduceSub, Int.reduceToNat, Nat.reduceLeDiff, PF, isStop, isP, goInt, beq_self_eq_true, decide_true, decide_false, Int.toNat_natCast, nn_eq, nn_ne, nsl_eq]; rfl) (fun ht => ?_) (fun ht => ?_) <;> (first | (simp only [Bool.true_eq_false, Bool.false_eq_true] at ht; done) | ((try simp only [Bool.not_eq_true', Bool.not_eq_false'] at ht); (try simp only [ht]); (try simp only [HTN] at ht); (try (exfalso; omega)))))
    | (exact hQ _ _ hO (Kept.refl _ _) (fun i hi => by cases hi)))
  · obtain ⟨b, m, rfl, h1, h2, h3⟩ := own_some hO (by omega)
    have hp : 0 < xs.length := by omega
    repeat' (first
    | (with_reducible refine W_pushC fun K hK => ?_)
    | (with_reducible refine W_blockI ?_)
    | (with_reducible refine W_scopeI ?_)
    | (with_reducible refine W_labelI ?_)
    | (with_reducible refine W_skipI ?_)
    | (with_reducible refine W_retI ?_)
    | (with_reducible refine W_exitI ?_)
    | (with_reducible refine then_normalI ?_)
    | (with_reducible refine then_retI ?_)
    | (with_reducible refine then_exitI ?_)
    | (with_reducible refine inBlock_normalI ?_)
    | (with_reducible refine inBlock_retI ?_)
    | (with_reducible refine inBlock_exitI ?_)
    | (with_reducible refine inBlock_exitN (by decide) ?_)
    | ((with_reducible refine bodyQ_normal0 ?_); (try simp only [EVB, Nat.reduceEqDiff, reduceIte]))
    | ((with_reducible refine bodyQ_normal1 ?_); (try simp only [EVB, Nat.reduceEqDiff, reduceIte]))
    | ((with_reducible refine bodyQ_normal2 ?_); (try simp only [EVB, Nat.reduceEqDiff, reduceIte]))
    | ((with_reducible refine bodyQ_normal3 ?_); (try simp only [EVB, Nat.reduceEqDiff, reduceIte]))
    | ((with_reducible refine bodyQ_normal4 ?_); (try simp only [EVB, Nat.reduceEqDiff, reduceIte]))
    | ((with_reducible refine bodyQ_ret0 ?_); (try simp only [EVB, Nat.reduceEqDiff, reduceIte]))
    | ((with_reducible refine bodyQ_ret1 ?_); (try simp only [EVB, Nat.reduceEqDiff, reduceIte]))
    | ((with_reducible refine bodyQ_ret2 ?_); (try simp only [EVB, Nat.reduceEqDiff, reduceIte]))
    | ((with_reducible refine bodyQ_ret3 ?_); (try simp only [EVB, Nat.reduceEqDiff, reduceIte]))
    | ((with_reducible refine bodyQ_ret4 ?_); (try simp only [EVB, Nat.reduceEqDiff, reduceIte]))
    | (with_reducible refine Cont.use (by assumption) ?_)
    | ((with_reducible show W _ _ (.cond _ _ _) _ _ _); refine W_condI (by simp (disch := first | ((with_reducible show isStop _ = false); rfl) | ((with_reducible show isP _ = true); rfl) | ((with_reducible show (isStop _ || isP _) = false); rfl) | assumption | (simp only [gt_some, gb_bool, gb_undef, EVB, Option.bind_some, Nat.reduceEqDiff, reduceIte, beq_self_eq_true, Bool.not_true, Bool.not_false, beq_true, beq_false]; done) | omega | (with_reducible decide) | (simp only [List.length_cons, List.length_nil, List.size_toArray, List.toList_toArray, List.all_cons, List.all_nil, Go.Proofs.YtdfgdpjlbcnkfaaDoorAbs.oneC, Bool.and_self, Go.Proofs.YtdfgdpjlbcnkfaaDoorAbs.St.next_push, Go.Proofs.YtdfgdpjlbcnkfaaDoorAbs.St.next_upd, Nat.zero_add, Nat.reduceAdd, Nat.reduceLeDiff, Nat.le_refl, Nat.zero_le] <;> omega)) only [↓DN, ↓reduceIte, UP, Int.reduceEq, Int.reduceLT, Int.reduceLE, Nat.reduceEqDiff, Nat.reduceAdd, Nat.reduceMul, Nat.reduceSub, Int.reduceToNat, Nat.reduceLeDiff, PF, isStop, isP, goInt, beq_self_eq_true, decide_true, decide_false, Int.toNat_natCast, nn_eq, nn_ne]; rfl) (fun ht => ?_) (fun ht => ?_) <;> (first | (simp only [Bool.true_eq_false, Bool.false_eq_true] at ht; done) | ((try simp only [Bool.not_eq_true', Bool.not_eq_false'] at ht); (try simp only [ht]); (try simp only [HTN] at ht); (try (exfalso; omega)))))
    | ((with_reducible refine W_regionI ?_); simp (disch := first | ((with_reducible show isStop _ = false); rfl) | ((with_reducible show isP _ = true); rfl) | ((with_reducible show (isStop _ || isP _) = false); rfl) | assumption | (simp only [gt_some, gb_bool, gb_undef, EVB, Option.bind_some, Nat.reduceEqDiff, reduceIte, beq_self_eq_true, Bool.not_true, Bool.not_false, beq_true, beq_false]; done) | omega | (with_reducible decide) | (simp only [List.length_cons, List.length_nil, List.size_toArray, List.toList_toArray, List.all_cons, List.all_nil, Go.Proofs.YtdfgdpjlbcnkfaaDoorAbs.oneC, Bool.and_self, Go.Proofs.YtdfgdpjlbcnkfaaDoorAbs.St.next_push, Go.Proofs.YtdfgdpjlbcnkfaaDoorAbs.St.next_upd, Nat.zero_add, Nat.reduceAdd, Nat.reduceLeDiff, Nat.le_refl, Nat.zero_le] <;> omega)) only [↓DN, ↓reduceIte, UP, Int.reduceEq, Int.reduceLT, Int.reduceLE, Nat.reduceEqDiff, Nat.reduceAdd, Nat.reduceMul, Nat.reduceSub, Int.reduceToNat, Nat.reduceLeDiff, PF, isStop, isP, goInt, beq_self_eq_true, decide_true, decide_false, Int.toNat_natCast, nn_eq, nn_ne])
    | ((first | (with_reducible show O _ _ _ _ _ _ _ _) | (with_reducible show OK _ _ _ _ _ _ _ _ _) | (with_reducible show OKF _ _ _ _ _ _ _ _ _ _) | (with_reducible show OKT _ _ _ _ _ _ _ _ _ _ _ _) | (with_reducible show _ ∧ _)); simp (disch := first | ((with_reducible show isStop _ = false); rfl) | ((with_reducible show isP _ = true); rfl) | ((with_reducible show (isStop _ || isP _) = false); rfl) | assumption | (simp only [gt_some, gb_bool, gb_undef, EVB, Option.bind_some, Nat.reduceEqDiff, reduceIte, beq_self_eq_true, Bool.not_true, Bool.not_false, beq_true, beq_false]; done) | omega | (with_reducible decide) | (simp only [List.length_cons, List.length_nil, List.size_toArray, List.toList_toArray, List.all_cons, List.all_nil, Go.Proofs.YtdfgdpjlbcnkfaaDoorAbs.oneC, Bool.and_self, Go.Proofs.YtdfgdpjlbcnkfaaDoorAbs.St.next_push, Go.Proofs.YtdfgdpjlbcnkfaaDoorAbs.St.next_upd, Nat.zero_add, Nat.reduceAdd, Nat.reduceLeDiff, Nat.le_refl, Nat.zero_le] <;> omega)) only [↓DN, ↓reduceIte, UP, Int.reduceEq, Int.reduceLT, Int.reduceLE, Nat.reduceEqDiff, Nat.reduceAdd, Nat.reduceMul, Nat.reduceSub, Int.reduceToNat, Nat.reduceLeDiff, PF, isStop, isP, goInt, beq_self_eq_true, decide_true, decide_false, Int.toNat_natCast, nn_eq, nn_ne])
    | ((with_reducible show O _ _ _ (⟨_, _, _, _, _, some _⟩ :: _) _ _ _ _); refine O_split (by simp (disch := first | ((with_reducible show isStop _ = false); rfl) | ((with_reducible show isP _ = true); rfl) | ((with_reducible show (isStop _ || isP _) = false); rfl) | assumption | (simp only [gt_some, gb_bool, gb_undef, EVB, Option.bind_some, Nat.reduceEqDiff, reduceIte, beq_self_eq_true, Bool.not_true, Bool.not_false, beq_true, beq_false]; done) | omega | (with_reducible decide) | (simp only [List.length_cons, List.length_nil, List.size_toArray, List.toList_toArray, List.all_cons, List.all_nil, Go.Proofs.YtdfgdpjlbcnkfaaDoorAbs.oneC, Bool.and_self, Go.Proofs.YtdfgdpjlbcnkfaaDoorAbs.St.next_push, Go.Proofs.YtdfgdpjlbcnkfaaDoorAbs.St.next_upd, Nat.zero_add, Nat.reduceAdd, Nat.reduceLeDiff, Nat.le_refl, Nat.zero_le] <;> omega)) only [↓DN, ↓reduceIte, UP, Int.reduceEq, Int.reduceLT, Int.reduceLE, Nat.reduceEqDiff, Nat.reduceAdd, Nat.reduceMul, Nat.reduceSub, Int.reduceToNat, Nat.reduceLeDiff, PF, isStop, isP, goInt, beq_self_eq_true, decide_true, decide_false, Int.toNat_natCast, nn_eq, nn_ne]; rfl) (fun ht => ?_) (fun ht => ?_) <;> (first | (simp only [Bool.true_eq_false, Bool.false_eq_true] at ht; done) | ((try simp only [Bool.not_eq_true', Bool.not_eq_false'] at ht); (try simp only [ht]); (try simp only [HTN] at ht); (try (exfalso; omega))))))
    refine O_lit0 (P := Tryd.prog) (elem := 66) (size := 2) (bytes := 32) (m := xs.length) (ys := fldv xs) u41 sz66 by66 ze66 ⟨by decide, by decide, rfl⟩ (by simp only [EVB, Nat.reduceEqDiff, reduceIte]; rfl) (by simp only [EVB, Nat.reduceEqDiff, reduceIte]; exact asrc_own (own_push hO) u41) (by omega) ⟨hO.1, hO.2.1⟩ (by omega) fun v1 S1 hO1 hKp hB => ?_
    repeat' (first
    | (with_reducible refine W_pushC fun K hK => ?_)
    | (with_reducible refine W_blockI ?_)
    | (with_reducible refine W_scopeI ?_)
    | (with_reducible refine W_labelI ?_)
    | (with_reducible refine W_skipI ?_)
    | (with_reducible refine W_retI ?_)
    | (with_reducible refine W_exitI ?_)
    | (with_reducible refine then_normalI ?_)
    | (with_reducible refine then_retI ?_)
    | (with_reducible refine then_exitI ?_)
    | (with_reducible refine inBlock_normalI ?_)
    | (with_reducible refine inBlock_retI ?_)
    | (with_reducible refine inBlock_exitI ?_)
    | (with_reducible refine inBlock_exitN (by decide) ?_)
    | ((with_reducible refine bodyQ_normal0 ?_); (try simp only [EVB, Nat.reduceEqDiff, reduceIte]))
    | ((with_reducible refine bodyQ_normal1 ?_); (try simp only [EVB, Nat.reduceEqDiff, reduceIte]))
    | ((with_reducible refine bodyQ_normal2 ?_); (try simp only [EVB, Nat.reduceEqDiff, reduceIte]))
    | ((with_reducible refine bodyQ_normal3 ?_); (try simp only [EVB, Nat.reduceEqDiff, reduceIte]))
    | ((with_reducible refine bodyQ_normal4 ?_); (try simp only [EVB, Nat.reduceEqDiff, reduceIte]))
    | ((with_reducible refine bodyQ_ret0 ?_); (try simp only [EVB, Nat.reduceEqDiff, reduceIte]))
    | ((with_reducible refine bodyQ_ret1 ?_); (try simp only [EVB, Nat.reduceEqDiff, reduceIte]))
    | ((with_reducible refine bodyQ_ret2 ?_); (try simp only [EVB, Nat.reduceEqDiff, reduceIte]))
    | ((with_reducible refine bodyQ_ret3 ?_); (try simp only [EVB, Nat.reduceEqDiff, reduceIte]))
    | ((with_reducible refine bodyQ_ret4 ?_); (try simp only [EVB, Nat.reduceEqDiff, reduceIte]))
    | (with_reducible refine Cont.use (by assumption) ?_)
    | ((with_reducible show W _ _ (.cond _ _ _) _ _ _); refine W_condI (by simp (disch := first | ((with_reducible show isStop _ = false); rfl) | ((with_reducible show isP _ = true); rfl) | ((with_reducible show (isStop _ || isP _) = false); rfl) | assumption | (simp only [gt_some, gb_bool, gb_undef, EVB, Option.bind_some, Nat.reduceEqDiff, reduceIte, beq_self_eq_true, Bool.not_true, Bool.not_false, beq_true, beq_false]; done) | omega | (with_reducible decide) | (simp only [List.length_cons, List.length_nil, List.size_toArray, List.toList_toArray, List.all_cons, List.all_nil, Go.Proofs.YtdfgdpjlbcnkfaaDoorAbs.oneC, Bool.and_self, Go.Proofs.YtdfgdpjlbcnkfaaDoorAbs.St.next_push, Go.Proofs.YtdfgdpjlbcnkfaaDoorAbs.St.next_upd, Nat.zero_add, Nat.reduceAdd, Nat.reduceLeDiff, Nat.le_refl, Nat.zero_le] <;> omega)) only [↓DN, ↓reduceIte, UP, Int.reduceEq, Int.reduceLT, Int.reduceLE, Nat.reduceEqDiff, Nat.reduceAdd, Nat.reduceMul, Nat.reduceSub, Int.reduceToNat, Nat.reduceLeDiff, PF, isStop, isP, goInt, beq_self_eq_true, decide_true, decide_false, Int.toNat_natCast, nn_eq, nn_ne]; rfl) (fun ht => ?_) (fun ht => ?_) <;> (first | (simp only [Bool.true_eq_false, Bool.false_eq_true] at ht; done) | ((try simp only [Bool.not_eq_true', Bool.not_eq_false'] at ht); (try simp only [ht]); (try simp only [HTN] at ht); (try (exfalso; omega)))))
    | ((with_reducible refine W_regionI ?_); simp (disch := first | ((with_reducible show isStop _ = false); rfl) | ((with_reducible show isP _ = true); rfl) | ((with_reducible show (isStop _ || isP _) = false); rfl) | assumption | (simp only [gt_some, gb_bool, gb_undef, EVB, Option.bind_some, Nat.reduceEqDiff, reduceIte, beq_self_eq_true, Bool.not_true, Bool.not_false, beq_true, beq_false]; done) | omega | (with_reducible decide) | (simp only [List.length_cons, List.length_nil, List.size_toArray, List.toList_toArray, List.all_cons, List.all_nil, Go.Proofs.YtdfgdpjlbcnkfaaDoorAbs.oneC, Bool.and_self, Go.Proofs.YtdfgdpjlbcnkfaaDoorAbs.St.next_push, Go.Proofs.YtdfgdpjlbcnkfaaDoorAbs.St.next_upd, Nat.zero_add, Nat.reduceAdd, Nat.reduceLeDiff, Nat.le_refl, Nat.zero_le] <;> omega)) only [↓DN, ↓reduceIte, UP, Int.reduceEq, Int.reduceLT, Int.reduceLE, Nat.reduceEqDiff, Nat.reduceAdd, Nat.reduceMul, Nat.reduceSub, Int.reduceToNat, Nat.reduceLeDiff, PF, isStop, isP, goInt, beq_self_eq_true, decide_true, decide_false, Int.toNat_natCast, nn_eq, nn_ne])
    | ((first | (with_reducible show O _ _ _ _ _ _ _ _) | (with_reducible show OK _ _ _ _ _ _ _ _ _) | (with_reducible show OKF _ _ _ _ _ _ _ _ _ _) | (with_reducible show OKT _ _ _ _ _ _ _ _ _ _ _ _) | (with_reducible show _ ∧ _)); simp (disch := first | ((with_reducible show isStop _ = false); rfl) | ((with_reducible show isP _ = true); rfl) | ((with_reducible show (isStop _ || isP _) = false); rfl) | assumption | (simp only [gt_some, gb_bool, gb_undef, EVB, Option.bind_some, Nat.reduceEqDiff, reduceIte, beq_self_eq_true, Bool.not_true, Bool.not_false, beq_true, beq_false]; done) | omega | (with_reducible decide) | (simp only [List.length_cons, List.length_nil, List.size_toArray, List.toList_toArray, List.all_cons, List.all_nil, Go.Proofs.YtdfgdpjlbcnkfaaDoorAbs.oneC, Bool.and_self, Go.Proofs.YtdfgdpjlbcnkfaaDoorAbs.St.next_push, Go.Proofs.YtdfgdpjlbcnkfaaDoorAbs.St.next_upd, Nat.zero_add, Nat.reduceAdd, Nat.reduceLeDiff, Nat.le_refl, Nat.zero_le] <;> omega)) only [↓DN, ↓reduceIte, UP, Int.reduceEq, Int.reduceLT, Int.reduceLE, Nat.reduceEqDiff, Nat.reduceAdd, Nat.reduceMul, Nat.reduceSub, Int.reduceToNat, Nat.reduceLeDiff, PF, isStop, isP, goInt, beq_self_eq_true, decide_true, decide_false, Int.toNat_natCast, nn_eq, nn_ne])
    | ((with_reducible show O _ _ _ (⟨_, _, _, _, _, some _⟩ :: _) _ _ _ _); refine O_split (by simp (disch := first | ((with_reducible show isStop _ = false); rfl) | ((with_reducible show isP _ = true); rfl) | ((with_reducible show (isStop _ || isP _) = false); rfl) | assumption | (simp only [gt_some, gb_bool, gb_undef, EVB, Option.bind_some, Nat.reduceEqDiff, reduceIte, beq_self_eq_true, Bool.not_true, Bool.not_false, beq_true, beq_false]; done) | omega | (with_reducible decide) | (simp only [List.length_cons, List.length_nil, List.size_toArray, List.toList_toArray, List.all_cons, List.all_nil, Go.Proofs.YtdfgdpjlbcnkfaaDoorAbs.oneC, Bool.and_self, Go.Proofs.YtdfgdpjlbcnkfaaDoorAbs.St.next_push, Go.Proofs.YtdfgdpjlbcnkfaaDoorAbs.St.next_upd, Nat.zero_add, Nat.reduceAdd, Nat.reduceLeDiff, Nat.le_refl, Nat.zero_le] <;> omega)) only [↓DN, ↓reduceIte, UP, Int.reduceEq, Int.reduceLT, Int.reduceLE, Nat.reduceEqDiff, Nat.reduceAdd, Nat.reduceMul, Nat.reduceSub, Int.reduceToNat, Nat.reduceLeDiff, PF, isStop, isP, goInt, beq_self_eq_true, decide_true, decide_false, Int.toNat_natCast, nn_eq, nn_ne]; rfl) (fun ht => ?_) (fun ht => ?_) <;> (first | (simp only [Bool.true_eq_false, Bool.false_eq_true] at ht; done) | ((try simp only [Bool.not_eq_true', Bool.not_eq_false'] at ht); (try simp only [ht]); (try simp only [HTN] at ht); (try (exfalso; omega)))))
    | (exact hQ _ _ hO1 ((Kept.push _ none).trans hKp) (fun i hi => Nat.le_trans (Nat.le_succ _) (hB i hi))))
theorem Trailers_C (h : HI I) {b m : Nat} {r : PRd} {tv lv : Value} (hR : Rd S b r tv lv m) (hn : r.trailers.length ≤ 1048576)
    (hQ : ∀ v' S', Own 66 2 S' v' r.trailers.length (fldv r.trailers) → Kept S S' none → (∀ i, blkOf v' = some i → S.next ≤ i) → Q v' S') : C Tryd.prog I 18 #[.pointer (some ⟨b, 0, some 11⟩)] S Q := by
  refine C_body (rs := [.tmp 2]) (h.no 18 (by decide)) Tryd.func18 rfl rfl ok18 ?_
  obtain ⟨la, lc, rfl⟩ := own_slice hR.trl
  have hb := hR.cell; have hm := hR.hm; have hnb := hR.hn
  simp only [CR.as, CR.cells] at hb
  obtain ⟨u22, sz5, u5, u9, u3, u29, u34, u33, sz3, u4, u41, sz66, u46, sz28, u47, u52, sz22, sz62, sz24, sz59, u59, sz60, u60, sz41, sz58, u58, sz73, sz34, sz4, sz9, sz83, u88, sz86, u112, sz118, u118, u2, sz126, u126, u21, sz130, u130, u139, u140, sz141, u141, u145, u148, sz147, u154, u155⟩ := UF
  repeat' (first
    | (with_reducible refine W_pushC fun K hK => ?_)
    | (with_reducible refine W_blockI ?_)
    | (with_reducible refine W_scopeI ?_)
    | (with_reducible refine W_labelI ?_)
    | (with_reducible refine W_skipI ?_)
    | (with_reducible refine W_retI ?_)
    | (with_reducible refine W_exitI ?_)
    | (with_reducible refine then_normalI ?_)
    | (with_reducible refine then_retI ?_)
    | (with_reducible refine then_exitI ?_)
    | (with_reducible refine inBlock_normalI ?_)
    | (with_reducible refine inBlock_retI ?_)
    | (with_reducible refine inBlock_exitI ?_)
    | (with_reducible refine inBlock_exitN (by decide) ?_)
    | ((with_reducible refine bodyQ_normal0 ?_); (try simp only [EVB, Nat.reduceEqDiff, reduceIte]))
    | ((with_reducible refine bodyQ_normal1 ?_); (try simp only [EVB, Nat.reduceEqDiff, reduceIte]))
    | ((with_reducible refine bodyQ_normal2 ?_); (try simp only [EVB, Nat.reduceEqDiff, reduceIte]))
    | ((with_reducible refine bodyQ_normal3 ?_); (try simp only [EVB, Nat.reduceEqDiff, reduceIte]))
    | ((with_reducible refine bodyQ_normal4 ?_); (try simp only [EVB, Nat.reduceEqDiff, reduceIte]))
    | ((with_reducible refine bodyQ_ret0 ?_); (try simp only [EVB, Nat.reduceEqDiff, reduceIte]))
    | ((with_reducible refine bodyQ_ret1 ?_); (try simp only [EVB, Nat.reduceEqDiff, reduceIte]))
    | ((with_reducible refine bodyQ_ret2 ?_); (try simp only [EVB, Nat.reduceEqDiff, reduceIte]))
    | ((with_reducible refine bodyQ_ret3 ?_); (try simp only [EVB, Nat.reduceEqDiff, reduceIte]))
    | ((with_reducible refine bodyQ_ret4 ?_); (try simp only [EVB, Nat.reduceEqDiff, reduceIte]))
    | ((with_reducible show C _ _ _ _ _ _); first | (refine CloneF_C h hR.trl hn (fun v' S' h1 h2 h3 => ?_)))
    | (with_reducible refine Cont.use (by assumption) ?_)
    | ((with_reducible show W _ _ (.cond _ _ _) _ _ _); refine W_condI (by simp (disch := first | ((with_reducible show isStop _ = false); rfl) | ((with_reducible show isP _ = true); rfl) | ((with_reducible show (isStop _ || isP _) = false); rfl) | assumption | (simp only [gt_some, gb_bool, gb_undef, EVB, Option.bind_some, Nat.reduceEqDiff, reduceIte, beq_self_eq_true, Bool.not_true, Bool.not_false, beq_true, beq_false]; done) | omega | (with_reducible decide) | (simp only [List.length_cons, List.length_nil, List.size_toArray, List.toList_toArray, List.all_cons, List.all_nil, Go.Proofs.YtdfgdpjlbcnkfaaDoorAbs.oneC, Bool.and_self, Go.Proofs.YtdfgdpjlbcnkfaaDoorAbs.St.next_push, Go.Proofs.YtdfgdpjlbcnkfaaDoorAbs.St.next_upd, Nat.zero_add, Nat.reduceAdd, Nat.reduceLeDiff, Nat.le_refl, Nat.zero_le] <;> omega)) only [↓DN, ↓reduceIte, UP, Int.reduceEq, Int.reduceLT, Int.reduceLE, Nat.reduceEqDiff, Nat.reduceAdd, Nat.reduceMul, Nat.reduceSub, Int.reduceToNat, Nat.reduceLeDiff, PF, isStop, isP, goInt, beq_self_eq_true, decide_true, decide_false, Int.toNat_natCast, nn_eq, nn_ne, hb]; rfl) (fun ht => ?_) (fun ht => ?_) <;> (first | (simp only [Bool.true_eq_false, Bool.false_eq_true] at ht; done) | ((try simp only [Bool.not_eq_true', Bool.not_eq_false'] at ht); (try simp only [ht]); (try simp only [HTN] at ht); (try (exfalso; omega)))))
    | ((with_reducible refine W_regionI ?_); simp (disch := first | ((with_reducible show isStop _ = false); rfl) | ((with_reducible show isP _ = true); rfl) | ((with_reducible show (isStop _ || isP _) = false); rfl) | assumption | (simp only [gt_some, gb_bool, gb_undef, EVB, Option.bind_some, Nat.reduceEqDiff, reduceIte, beq_self_eq_true, Bool.not_true, Bool.not_false, beq_true, beq_false]; done) | omega | (with_reducible decide) | (simp only [List.length_cons, List.length_nil, List.size_toArray, List.toList_toArray, List.all_cons, List.all_nil, Go.Proofs.YtdfgdpjlbcnkfaaDoorAbs.oneC, Bool.and_self, Go.Proofs.YtdfgdpjlbcnkfaaDoorAbs.St.next_push, Go.Proofs.YtdfgdpjlbcnkfaaDoorAbs.St.next_upd, Nat.zero_add, Nat.reduceAdd, Nat.reduceLeDiff, Nat.le_refl, Nat.zero_le] <;> omega)) only [↓DN, ↓reduceIte, UP, Int.reduceEq, Int.reduceLT, Int.reduceLE, Nat.reduceEqDiff, Nat.reduceAdd, Nat.reduceMul, Nat.reduceSub, Int.reduceToNat, Nat.reduceLeDiff, PF, isStop, isP, goInt, beq_self_eq_true, decide_true, decide_false, Int.toNat_natCast, nn_eq, nn_ne, hb])
    | ((first | (with_reducible show O _ _ _ _ _ _ _ _) | (with_reducible show OK _ _ _ _ _ _ _ _ _) | (with_reducible show OKF _ _ _ _ _ _ _ _ _ _) | (with_reducible show OKT _ _ _ _ _ _ _ _ _ _ _ _) | (with_reducible show _ ∧ _)); simp (disch := first | ((with_reducible show isStop _ = false); rfl) | ((with_reducible show isP _ = true); rfl) | ((with_reducible show (isStop _ || isP _) = false); rfl) | assumption | (simp only [gt_some, gb_bool, gb_undef, EVB, Option.bind_some, Nat.reduceEqDiff, reduceIte, beq_self_eq_true, Bool.not_true, Bool.not_false, beq_true, beq_false]; done) | omega | (with_reducible decide) | (simp only [List.length_cons, List.length_nil, List.size_toArray, List.toList_toArray, List.all_cons, List.all_nil, Go.Proofs.YtdfgdpjlbcnkfaaDoorAbs.oneC, Bool.and_self, Go.Proofs.YtdfgdpjlbcnkfaaDoorAbs.St.next_push, Go.Proofs.YtdfgdpjlbcnkfaaDoorAbs.St.next_upd, Nat.zero_add, Nat.reduceAdd, Nat.reduceLeDiff, Nat.le_refl, Nat.zero_le] <;> omega)) only [↓DN, ↓reduceIte, UP, Int.reduceEq, Int.reduceLT, Int.reduceLE, Nat.reduceEqDiff, Nat.reduceAdd, Nat.reduceMul, Nat.reduceSub, Int.reduceToNat, Nat.reduceLeDiff, PF, isStop, isP, goInt, beq_self_eq_true, decide_true, decide_false, Int.toNat_natCast, nn_eq, nn_ne, hb])
    | ((with_reducible show O _ _ _ (⟨_, _, _, _, _, some _⟩ :: _) _ _ _ _); refine O_split (by simp (disch := first | ((with_reducible show isStop _ = false); rfl) | ((with_reducible show isP _ = true); rfl) | ((with_reducible show (isStop _ || isP _) = false); rfl) | assumption | (simp only [gt_some, gb_bool, gb_undef, EVB, Option.bind_some, Nat.reduceEqDiff, reduceIte, beq_self_eq_true, Bool.not_true, Bool.not_false, beq_true, beq_false]; done) | omega | (with_reducible decide) | (simp only [List.length_cons, List.length_nil, List.size_toArray, List.toList_toArray, List.all_cons, List.all_nil, Go.Proofs.YtdfgdpjlbcnkfaaDoorAbs.oneC, Bool.and_self, Go.Proofs.YtdfgdpjlbcnkfaaDoorAbs.St.next_push, Go.Proofs.YtdfgdpjlbcnkfaaDoorAbs.St.next_upd, Nat.zero_add, Nat.reduceAdd, Nat.reduceLeDiff, Nat.le_refl, Nat.zero_le] <;> omega)) only [↓DN, ↓reduceIte, UP, Int.reduceEq, Int.reduceLT, Int.reduceLE, Nat.reduceEqDiff, Nat.reduceAdd, Nat.reduceMul, Nat.reduceSub, Int.reduceToNat, Nat.reduceLeDiff, PF, isStop, isP, goInt, beq_self_eq_true, decide_true, decide_false, Int.toNat_natCast, nn_eq, nn_ne, hb]; rfl) (fun ht => ?_) (fun ht => ?_) <;> (first | (simp only [Bool.true_eq_false, Bool.false_eq_true] at ht; done) | ((try simp only [Bool.not_eq_true', Bool.not_eq_false'] at ht); (try simp only [ht]); (try simp only [HTN] at ht); (try (exfalso; omega)))))
    | (exact hQ _ _ h1 h2 h3))
theorem pr_und {P : Program} {t : TypeId} {d : TypeDesc} (h : P.underlying t = some d) : pureRun P (underlying t) = some d := by
  simp [underlying, program, pureRun, pureRun_bind, Bind.bind, Sem.bind, h, pure]
theorem pr_str (n : Nat) (t : TypeId) (a c : ByteArray) (h : Tryd.prog.underlying t = some .string) : pureRun Tryd.prog (Op.equalIn (n + 1) t (.string a) (.string c)) = some (a == c) := by
  rw [Op.equalIn, pureRun_bind, pr_und h]
  rfl
theorem eq66 (a b c d : ByteArray) : pureRun Tryd.prog (Op.equalIn 10000 66 (.agg #[.string a, .string b]) (.agg #[.string c, .string d])) = some ((a == c) && (b == d)) := by
  have hp : Tryd.prog.stoodInHeld 66 = false := by kernel_rfl
  have hpr : pureRun Tryd.prog program = some Tryd.prog := rfl
  have p1 : ∀ a b : ByteArray, pureRun Tryd.prog (part 9 #[Value.string a, Value.string b] 0) = some (.string a) := fun a b => by kernel_rfl
  have p2 : ∀ a b : ByteArray, pureRun Tryd.prog (part 9 #[Value.string a, Value.string b] 1) = some (.string b) := fun a b => by kernel_rfl
  have s1 : ∀ a c : ByteArray, pureRun Tryd.prog (Op.equalIn 9999 9 (.string a) (.string c)) = some (a == c) := fun a c => pr_str 9998 9 a c u9
  rw [show (10000 : Nat) = 9999 + 1 from rfl, Op.equalIn, pureRun_bind, pr_und (by exact Tryd.underlying66)]
  simp only [Option.bind_some]
  rw [pureRun_bind, hpr]
  simp only [Option.bind_some, hp, Bool.false_eq_true, if_false]
  rw [pureRun_bind, ← Array.forIn_toList]
  simp only [List.forIn_cons, List.forIn_nil, pureRun_bind, p1, p2, s1, Option.bind_some, ne_eq, String.reduceEq, not_false_eq_true, if_true]
  cases h1 : (a == c)
  · simp [pureRun_pure, pureRun_bind]
  · cases h2 : (b == d)
    · simp [pureRun_pure, pureRun_bind, p2, s1, h2]
    · simp [pureRun_pure, pureRun_bind, p2, s1, h2]
theorem pr_map {α β : Type} {P : Program} (f : α → β) (e : Sem α) : pureRun P (f <$> e) = (pureRun P e).map f := by
  show pureRun P (e >>= fun a => pure (f a)) = _
  rw [pureRun_bind]
  cases pureRun P e <;> rfl
theorem ne66 (x y : Operand) (a b c d : ByteArray) : binX Tryd.prog .neq 66 x y (.agg #[.string a, .string b]) (.agg #[.string c, .string d]) = some (.bool (!((a == c) && (b == d)))) := by
  have hg : Tryd.prog.eqGuardType Tryd.prog.depth 66 = false := by kernel_rfl
  have hpr : pureRun Tryd.prog program = some Tryd.prog := rfl
  simp [binX, abinOp, anil, scalar, leaf, eqGuard, binOp, Op.equal, Op.maxDepth, pureRun_bind, pureRun_pure, hpr, hg, pr_map, eq66]
theorem fldv_at (xs : List Fld) (i : Nat) (h : i < xs.length) : ((fldv xs).drop (i * 2)).take 2 = [.string (xs[i]).1, .string (xs[i]).2] := by
  induction xs generalizing i with
  | nil => simp at h
  | cons x xs ih =>
    cases i with
    | zero => simp [fldv]
    | succ i =>
      have := ih i (by simpa using h)
      simp only [fldv, List.flatMap_cons] at this ⊢
      rw [show (i + 1) * 2 = 2 + i * 2 by omega, ← List.drop_drop]
      simpa using this
theorem fldv_len (xs : List Fld) : (fldv xs).length = xs.length * 2 := by
  induction xs with
  | nil => rfl
  | cons x xs ih => simp only [fldv, List.flatMap_cons, List.length_append, List.length_cons, List.length_nil] at ih ⊢; omega
/-- The same fields in two rows. -/
theorem fields_C (h : HI I) {v1 v2 : Value} {xs : List Fld} (hO1 : Own 66 2 S v1 xs.length (fldv xs)) (hO2 : Own 66 2 S v2 xs.length (fldv xs)) (hn : xs.length ≤ 1048576) (hQ : Q (.bool true) S) : C Tryd.prog I 17 #[v1, v2] S Q := by
  refine C_body (rs := [.tmp 4]) (h.no 17 (by decide)) Tryd.func17 rfl rfl ok17 ?_
  obtain ⟨u22, sz5, u5, u9, u3, u29, u34, u33, sz3, u4, u41, sz66, u46, sz28, u47, u52, sz22, sz62, sz24, sz59, u59, sz60, u60, sz41, sz58, u58, sz73, sz34, sz4, sz9, sz83, u88, sz86, u112, sz118, u118, u2, sz126, u126, u21, sz130, u130, u139, u140, sz141, u141, u145, u148, sz147, u154, u155⟩ := UF
  obtain ⟨a1, c1, e1⟩ := own_slice hO1
  obtain ⟨a2, c2, e2⟩ := own_slice hO2
  have h1 := hO1; have h2 := hO2
  subst e1 e2
  repeat' (first
    | (with_reducible refine W_pushC fun K hK => ?_)
    | (with_reducible refine W_blockI ?_)
    | (with_reducible refine W_scopeI ?_)
    | (with_reducible refine W_labelI ?_)
    | (with_reducible refine W_skipI ?_)
    | (with_reducible refine W_retI ?_)
    | (with_reducible refine W_exitI ?_)
    | (with_reducible refine then_normalI ?_)
    | (with_reducible refine then_retI ?_)
    | (with_reducible refine then_exitI ?_)
    | (with_reducible refine inBlock_normalI ?_)
    | (with_reducible refine inBlock_retI ?_)
    | (with_reducible refine inBlock_exitI ?_)
    | (with_reducible refine inBlock_exitN (by decide) ?_)
    | ((with_reducible refine bodyQ_normal0 ?_); (try simp only [EVB, Nat.reduceEqDiff, reduceIte]))
    | ((with_reducible refine bodyQ_normal1 ?_); (try simp only [EVB, Nat.reduceEqDiff, reduceIte]))
    | ((with_reducible refine bodyQ_normal2 ?_); (try simp only [EVB, Nat.reduceEqDiff, reduceIte]))
    | ((with_reducible refine bodyQ_normal3 ?_); (try simp only [EVB, Nat.reduceEqDiff, reduceIte]))
    | ((with_reducible refine bodyQ_normal4 ?_); (try simp only [EVB, Nat.reduceEqDiff, reduceIte]))
    | ((with_reducible refine bodyQ_ret0 ?_); (try simp only [EVB, Nat.reduceEqDiff, reduceIte]))
    | ((with_reducible refine bodyQ_ret1 ?_); (try simp only [EVB, Nat.reduceEqDiff, reduceIte]))
    | ((with_reducible refine bodyQ_ret2 ?_); (try simp only [EVB, Nat.reduceEqDiff, reduceIte]))
    | ((with_reducible refine bodyQ_ret3 ?_); (try simp only [EVB, Nat.reduceEqDiff, reduceIte]))
    | ((with_reducible refine bodyQ_ret4 ?_); (try simp only [EVB, Nat.reduceEqDiff, reduceIte]))
    | (with_reducible refine Cont.use (by assumption) ?_)
    | ((with_reducible show W _ _ (.cond _ _ _) _ _ _); refine W_condI (by simp (disch := first | ((with_reducible show isStop _ = false); rfl) | ((with_reducible show isP _ = true); rfl) | ((with_reducible show (isStop _ || isP _) = false); rfl) | assumption | (simp only [gt_some, gb_bool, gb_undef, EVB, Option.bind_some, Nat.reduceEqDiff, reduceIte, beq_self_eq_true, Bool.not_true, Bool.not_false, beq_true, beq_false]; done) | omega | (with_reducible decide) | (simp only [List.length_cons, List.length_nil, List.size_toArray, List.toList_toArray, List.all_cons, List.all_nil, Go.Proofs.YtdfgdpjlbcnkfaaDoorAbs.oneC, Bool.and_self, Go.Proofs.YtdfgdpjlbcnkfaaDoorAbs.St.next_push, Go.Proofs.YtdfgdpjlbcnkfaaDoorAbs.St.next_upd, Nat.zero_add, Nat.reduceAdd, Nat.reduceLeDiff, Nat.le_refl, Nat.zero_le] <;> omega)) only [↓DN, ↓reduceIte, UP, Int.reduceEq, Int.reduceLT, Int.reduceLE, Nat.reduceEqDiff, Nat.reduceAdd, Nat.reduceMul, Nat.reduceSub, Int.reduceToNat, Nat.reduceLeDiff, PF, isStop, isP, goInt, beq_self_eq_true, decide_true, decide_false, Int.toNat_natCast, nn_eq, nn_ne]; rfl) (fun ht => ?_) (fun ht => ?_) <;> (first | (simp only [Bool.true_eq_false, Bool.false_eq_true] at ht; done) | ((try simp only [Bool.not_eq_true', Bool.not_eq_false'] at ht); (try simp only [ht]); (try simp only [HTN] at ht); (try (exfalso; omega)))))
    | ((with_reducible refine W_regionI ?_); simp (disch := first | ((with_reducible show isStop _ = false); rfl) | ((with_reducible show isP _ = true); rfl) | ((with_reducible show (isStop _ || isP _) = false); rfl) | assumption | (simp only [gt_some, gb_bool, gb_undef, EVB, Option.bind_some, Nat.reduceEqDiff, reduceIte, beq_self_eq_true, Bool.not_true, Bool.not_false, beq_true, beq_false]; done) | omega | (with_reducible decide) | (simp only [List.length_cons, List.length_nil, List.size_toArray, List.toList_toArray, List.all_cons, List.all_nil, Go.Proofs.YtdfgdpjlbcnkfaaDoorAbs.oneC, Bool.and_self, Go.Proofs.YtdfgdpjlbcnkfaaDoorAbs.St.next_push, Go.Proofs.YtdfgdpjlbcnkfaaDoorAbs.St.next_upd, Nat.zero_add, Nat.reduceAdd, Nat.reduceLeDiff, Nat.le_refl, Nat.zero_le] <;> omega)) only [↓DN, ↓reduceIte, UP, Int.reduceEq, Int.reduceLT, Int.reduceLE, Nat.reduceEqDiff, Nat.reduceAdd, Nat.reduceMul, Nat.reduceSub, Int.reduceToNat, Nat.reduceLeDiff, PF, isStop, isP, goInt, beq_self_eq_true, decide_true, decide_false, Int.toNat_natCast, nn_eq, nn_ne])
    | ((first | (with_reducible show O _ _ _ _ _ _ _ _) | (with_reducible show OK _ _ _ _ _ _ _ _ _) | (with_reducible show OKF _ _ _ _ _ _ _ _ _ _) | (with_reducible show OKT _ _ _ _ _ _ _ _ _ _ _ _) | (with_reducible show _ ∧ _)); simp (disch := first | ((with_reducible show isStop _ = false); rfl) | ((with_reducible show isP _ = true); rfl) | ((with_reducible show (isStop _ || isP _) = false); rfl) | assumption | (simp only [gt_some, gb_bool, gb_undef, EVB, Option.bind_some, Nat.reduceEqDiff, reduceIte, beq_self_eq_true, Bool.not_true, Bool.not_false, beq_true, beq_false]; done) | omega | (with_reducible decide) | (simp only [List.length_cons, List.length_nil, List.size_toArray, List.toList_toArray, List.all_cons, List.all_nil, Go.Proofs.YtdfgdpjlbcnkfaaDoorAbs.oneC, Bool.and_self, Go.Proofs.YtdfgdpjlbcnkfaaDoorAbs.St.next_push, Go.Proofs.YtdfgdpjlbcnkfaaDoorAbs.St.next_upd, Nat.zero_add, Nat.reduceAdd, Nat.reduceLeDiff, Nat.le_refl, Nat.zero_le] <;> omega)) only [↓DN, ↓reduceIte, UP, Int.reduceEq, Int.reduceLT, Int.reduceLE, Nat.reduceEqDiff, Nat.reduceAdd, Nat.reduceMul, Nat.reduceSub, Int.reduceToNat, Nat.reduceLeDiff, PF, isStop, isP, goInt, beq_self_eq_true, decide_true, decide_false, Int.toNat_natCast, nn_eq, nn_ne])
    | ((with_reducible show O _ _ _ (⟨_, _, _, _, _, some _⟩ :: _) _ _ _ _); refine O_split (by simp (disch := first | ((with_reducible show isStop _ = false); rfl) | ((with_reducible show isP _ = true); rfl) | ((with_reducible show (isStop _ || isP _) = false); rfl) | assumption | (simp only [gt_some, gb_bool, gb_undef, EVB, Option.bind_some, Nat.reduceEqDiff, reduceIte, beq_self_eq_true, Bool.not_true, Bool.not_false, beq_true, beq_false]; done) | omega | (with_reducible decide) | (simp only [List.length_cons, List.length_nil, List.size_toArray, List.toList_toArray, List.all_cons, List.all_nil, Go.Proofs.YtdfgdpjlbcnkfaaDoorAbs.oneC, Bool.and_self, Go.Proofs.YtdfgdpjlbcnkfaaDoorAbs.St.next_push, Go.Proofs.YtdfgdpjlbcnkfaaDoorAbs.St.next_upd, Nat.zero_add, Nat.reduceAdd, Nat.reduceLeDiff, Nat.le_refl, Nat.zero_le] <;> omega)) only [↓DN, ↓reduceIte, UP, Int.reduceEq, Int.reduceLT, Int.reduceLE, Nat.reduceEqDiff, Nat.reduceAdd, Nat.reduceMul, Nat.reduceSub, Int.reduceToNat, Nat.reduceLeDiff, PF, isStop, isP, goInt, beq_self_eq_true, decide_true, decide_false, Int.toNat_natCast, nn_eq, nn_ne]; rfl) (fun ht => ?_) (fun ht => ?_) <;> (first | (simp only [Bool.true_eq_false, Bool.false_eq_true] at ht; done) | ((try simp only [Bool.not_eq_true', Bool.not_eq_false'] at ht); (try simp only [ht]); (try simp only [HTN] at ht); (try (exfalso; omega))))))
  refine W_loop (fun n e S1 => ∃ i : Nat, e.get 0 = .slice a1 xs.length c1 ∧ e.get 1 = .slice a2 xs.length c2 ∧ e.get 5 = .int .i64 i ∧ i ≤ xs.length ∧ n = xs.length - i ∧ S1 = S) xs.length ⟨0, by simp only [EVB, Nat.reduceEqDiff, reduceIte], by simp only [EVB, Nat.reduceEqDiff, reduceIte], by simp only [EVB, Nat.reduceEqDiff, reduceIte]; rfl, Nat.zero_le _, by simp, rfl⟩ ?_
  rintro n e S1 ⟨i, e0, e1, e5, hi, hn', rfl⟩
  have wi : IntKind.i64.wrap ((i : Int) + 1) = ((i + 1 : Nat) : Int) := by rw [Go.Proofs.YtdfgdpjlbcnkfaaDoorAbs.wp64 (by omega) (by omega)]; omega
  by_cases hlt : i < xs.length
  · have hd : decide ((i : Int) < (xs.length : Int)) = true := decide_eq_true (by omega)
    obtain ⟨b1, m1, q1, g1, k1, n1⟩ := own_some h1 (by omega)
    obtain ⟨b2, m2, q2, g2, k2, n2⟩ := own_some h2 (by omega)
    cases q1; cases q2
    have hl := fldv_len xs
    have r1 : Go.Proofs.YtdfgdpjlbcnkfaaDoorAbs.rowAt (S1.get b1) (0 + i * 2) 2 (fldv xs).length = some (.agg #[.string (xs[i]).1, .string (xs[i]).2]) := by
      rw [g1, Go.Proofs.YtdfgdpjlbcnkfaaDoorAbs.rowAt_own k1 (by omega) (by omega), Nat.zero_add, fldv_at xs i hlt]
    have r2 : Go.Proofs.YtdfgdpjlbcnkfaaDoorAbs.rowAt (S1.get b2) (0 + i * 2) 2 (fldv xs).length = some (.agg #[.string (xs[i]).1, .string (xs[i]).2]) := by
      rw [g2, Go.Proofs.YtdfgdpjlbcnkfaaDoorAbs.rowAt_own k2 (by omega) (by omega), Nat.zero_add, fldv_at xs i hlt]
    rw [Nat.zero_add] at r1 r2
    have b1 : ((xs[i]).1 == (xs[i]).1) = true := by rw [Go.beq_toListBytes]; exact beq_self_eq_true _
    have b2 : ((xs[i]).2 == (xs[i]).2) = true := by rw [Go.beq_toListBytes]; exact beq_self_eq_true _
    repeat' (first
    | (with_reducible refine W_pushC fun K hK => ?_)
    | (with_reducible refine W_blockI ?_)
    | (with_reducible refine W_scopeI ?_)
    | (with_reducible refine W_labelI ?_)
    | (with_reducible refine W_skipI ?_)
    | (with_reducible refine W_retI ?_)
    | (with_reducible refine W_exitI ?_)
    | (with_reducible refine then_normalI ?_)
    | (with_reducible refine then_retI ?_)
    | (with_reducible refine then_exitI ?_)
    | (with_reducible refine inBlock_normalI ?_)
    | (with_reducible refine inBlock_retI ?_)
    | (with_reducible refine inBlock_exitI ?_)
    | (with_reducible refine inBlock_exitN (by decide) ?_)
    | ((with_reducible refine bodyQ_normal0 ?_); (try simp only [EVB, Nat.reduceEqDiff, reduceIte]))
    | ((with_reducible refine bodyQ_normal1 ?_); (try simp only [EVB, Nat.reduceEqDiff, reduceIte]))
    | ((with_reducible refine bodyQ_normal2 ?_); (try simp only [EVB, Nat.reduceEqDiff, reduceIte]))
    | ((with_reducible refine bodyQ_normal3 ?_); (try simp only [EVB, Nat.reduceEqDiff, reduceIte]))
    | ((with_reducible refine bodyQ_normal4 ?_); (try simp only [EVB, Nat.reduceEqDiff, reduceIte]))
    | ((with_reducible refine bodyQ_ret0 ?_); (try simp only [EVB, Nat.reduceEqDiff, reduceIte]))
    | ((with_reducible refine bodyQ_ret1 ?_); (try simp only [EVB, Nat.reduceEqDiff, reduceIte]))
    | ((with_reducible refine bodyQ_ret2 ?_); (try simp only [EVB, Nat.reduceEqDiff, reduceIte]))
    | ((with_reducible refine bodyQ_ret3 ?_); (try simp only [EVB, Nat.reduceEqDiff, reduceIte]))
    | ((with_reducible refine bodyQ_ret4 ?_); (try simp only [EVB, Nat.reduceEqDiff, reduceIte]))
    | (with_reducible refine Cont.use (by assumption) ?_)
    | ((with_reducible show W _ _ (.cond _ _ _) _ _ _); refine W_condI (by simp (disch := first | ((with_reducible show isStop _ = false); rfl) | ((with_reducible show isP _ = true); rfl) | ((with_reducible show (isStop _ || isP _) = false); rfl) | assumption | (simp only [gt_some, gb_bool, gb_undef, EVB, Option.bind_some, Nat.reduceEqDiff, reduceIte, beq_self_eq_true, Bool.not_true, Bool.not_false, beq_true, beq_false]; done) | omega | (with_reducible decide) | (simp only [List.length_cons, List.length_nil, List.size_toArray, List.toList_toArray, List.all_cons, List.all_nil, Go.Proofs.YtdfgdpjlbcnkfaaDoorAbs.oneC, Bool.and_self, Go.Proofs.YtdfgdpjlbcnkfaaDoorAbs.St.next_push, Go.Proofs.YtdfgdpjlbcnkfaaDoorAbs.St.next_upd, Nat.zero_add, Nat.reduceAdd, Nat.reduceLeDiff, Nat.le_refl, Nat.zero_le] <;> omega)) only [↓DN, ↓reduceIte, UP, Int.reduceEq, Int.reduceLT, Int.reduceLE, Nat.reduceEqDiff, Nat.reduceAdd, Nat.reduceMul, Nat.reduceSub, Int.reduceToNat, Nat.reduceLeDiff, PF, isStop, isP, goInt, beq_self_eq_true, decide_true, decide_false, Int.toNat_natCast, nn_eq, nn_ne, hd, e0, e1, e5, wi, r1, r2, ne66, b1, b2]; rfl) (fun ht => ?_) (fun ht => ?_) <;> (first | (simp only [Bool.true_eq_false, Bool.false_eq_true] at ht; done) | ((try simp only [Bool.not_eq_true', Bool.not_eq_false'] at ht); (try simp only [ht]); (try simp only [HTN] at ht); (try (exfalso; omega)))))
    | ((with_reducible show W _ _ (.region _ _ true) _ _ _); first | (refine W_drawn (fl := [true, true, true, true, true, true, true, true, true]) (by kernel_rfl) ?_))
    | ((with_reducible refine W_regionI ?_); simp (disch := first | ((with_reducible show isStop _ = false); rfl) | ((with_reducible show isP _ = true); rfl) | ((with_reducible show (isStop _ || isP _) = false); rfl) | assumption | (simp only [gt_some, gb_bool, gb_undef, EVB, Option.bind_some, Nat.reduceEqDiff, reduceIte, beq_self_eq_true, Bool.not_true, Bool.not_false, beq_true, beq_false]; done) | omega | (with_reducible decide) | (simp only [List.length_cons, List.length_nil, List.size_toArray, List.toList_toArray, List.all_cons, List.all_nil, Go.Proofs.YtdfgdpjlbcnkfaaDoorAbs.oneC, Bool.and_self, Go.Proofs.YtdfgdpjlbcnkfaaDoorAbs.St.next_push, Go.Proofs.YtdfgdpjlbcnkfaaDoorAbs.St.next_upd, Nat.zero_add, Nat.reduceAdd, Nat.reduceLeDiff, Nat.le_refl, Nat.zero_le] <;> omega)) only [↓DN, ↓reduceIte, UP, Int.reduceEq, Int.reduceLT, Int.reduceLE, Nat.reduceEqDiff, Nat.reduceAdd, Nat.reduceMul, Nat.reduceSub, Int.reduceToNat, Nat.reduceLeDiff, PF, isStop, isP, goInt, beq_self_eq_true, decide_true, decide_false, Int.toNat_natCast, nn_eq, nn_ne, hd, e0, e1, e5, wi, r1, r2, ne66, b1, b2])
    | ((first | (with_reducible show O _ _ _ _ _ _ _ _) | (with_reducible show OK _ _ _ _ _ _ _ _ _) | (with_reducible show OKF _ _ _ _ _ _ _ _ _ _) | (with_reducible show OKT _ _ _ _ _ _ _ _ _ _ _ _) | (with_reducible show _ ∧ _)); simp (disch := first | ((with_reducible show isStop _ = false); rfl) | ((with_reducible show isP _ = true); rfl) | ((with_reducible show (isStop _ || isP _) = false); rfl) | assumption | (simp only [gt_some, gb_bool, gb_undef, EVB, Option.bind_some, Nat.reduceEqDiff, reduceIte, beq_self_eq_true, Bool.not_true, Bool.not_false, beq_true, beq_false]; done) | omega | (with_reducible decide) | (simp only [List.length_cons, List.length_nil, List.size_toArray, List.toList_toArray, List.all_cons, List.all_nil, Go.Proofs.YtdfgdpjlbcnkfaaDoorAbs.oneC, Bool.and_self, Go.Proofs.YtdfgdpjlbcnkfaaDoorAbs.St.next_push, Go.Proofs.YtdfgdpjlbcnkfaaDoorAbs.St.next_upd, Nat.zero_add, Nat.reduceAdd, Nat.reduceLeDiff, Nat.le_refl, Nat.zero_le] <;> omega)) only [↓DN, ↓reduceIte, UP, Int.reduceEq, Int.reduceLT, Int.reduceLE, Nat.reduceEqDiff, Nat.reduceAdd, Nat.reduceMul, Nat.reduceSub, Int.reduceToNat, Nat.reduceLeDiff, PF, isStop, isP, goInt, beq_self_eq_true, decide_true, decide_false, Int.toNat_natCast, nn_eq, nn_ne, hd, e0, e1, e5, wi, r1, r2, ne66, b1, b2])
    | ((with_reducible show O _ _ _ (⟨_, _, _, _, _, some _⟩ :: _) _ _ _ _); refine O_split (by simp (disch := first | ((with_reducible show isStop _ = false); rfl) | ((with_reducible show isP _ = true); rfl) | ((with_reducible show (isStop _ || isP _) = false); rfl) | assumption | (simp only [gt_some, gb_bool, gb_undef, EVB, Option.bind_some, Nat.reduceEqDiff, reduceIte, beq_self_eq_true, Bool.not_true, Bool.not_false, beq_true, beq_false]; done) | omega | (with_reducible decide) | (simp only [List.length_cons, List.length_nil, List.size_toArray, List.toList_toArray, List.all_cons, List.all_nil, Go.Proofs.YtdfgdpjlbcnkfaaDoorAbs.oneC, Bool.and_self, Go.Proofs.YtdfgdpjlbcnkfaaDoorAbs.St.next_push, Go.Proofs.YtdfgdpjlbcnkfaaDoorAbs.St.next_upd, Nat.zero_add, Nat.reduceAdd, Nat.reduceLeDiff, Nat.le_refl, Nat.zero_le] <;> omega)) only [↓DN, ↓reduceIte, UP, Int.reduceEq, Int.reduceLT, Int.reduceLE, Nat.reduceEqDiff, Nat.reduceAdd, Nat.reduceMul, Nat.reduceSub, Int.reduceToNat, Nat.reduceLeDiff, PF, isStop, isP, goInt, beq_self_eq_true, decide_true, decide_false, Int.toNat_natCast, nn_eq, nn_ne, hd, e0, e1, e5, wi, r1, r2, ne66, b1, b2]; rfl) (fun ht => ?_) (fun ht => ?_) <;> (first | (simp only [Bool.true_eq_false, Bool.false_eq_true] at ht; done) | ((try simp only [Bool.not_eq_true', Bool.not_eq_false'] at ht); (try simp only [ht]); (try simp only [HTN] at ht); (try (exfalso; omega)))))
    | ((refine ⟨_, ?_, i + 1, by simp only [EVB, Nat.reduceEqDiff, reduceIte, e0], by simp only [EVB, Nat.reduceEqDiff, reduceIte, e1], by simp only [EVB, Nat.reduceEqDiff, reduceIte], by omega, rfl, rfl⟩; omega)))
  · have hd : decide ((i : Int) < (xs.length : Int)) = false := decide_eq_false (by omega)
    repeat' (first
    | (with_reducible refine W_pushC fun K hK => ?_)
    | (with_reducible refine W_blockI ?_)
    | (with_reducible refine W_scopeI ?_)
    | (with_reducible refine W_labelI ?_)
    | (with_reducible refine W_skipI ?_)
    | (with_reducible refine W_retI ?_)
    | (with_reducible refine W_exitI ?_)
    | (with_reducible refine then_normalI ?_)
    | (with_reducible refine then_retI ?_)
    | (with_reducible refine then_exitI ?_)
    | (with_reducible refine inBlock_normalI ?_)
    | (with_reducible refine inBlock_retI ?_)
    | (with_reducible refine inBlock_exitI ?_)
    | (with_reducible refine inBlock_exitN (by decide) ?_)
    | ((with_reducible refine bodyQ_normal0 ?_); (try simp only [EVB, Nat.reduceEqDiff, reduceIte]))
    | ((with_reducible refine bodyQ_normal1 ?_); (try simp only [EVB, Nat.reduceEqDiff, reduceIte]))
    | ((with_reducible refine bodyQ_normal2 ?_); (try simp only [EVB, Nat.reduceEqDiff, reduceIte]))
    | ((with_reducible refine bodyQ_normal3 ?_); (try simp only [EVB, Nat.reduceEqDiff, reduceIte]))
    | ((with_reducible refine bodyQ_normal4 ?_); (try simp only [EVB, Nat.reduceEqDiff, reduceIte]))
    | ((with_reducible refine bodyQ_ret0 ?_); (try simp only [EVB, Nat.reduceEqDiff, reduceIte]))
    | ((with_reducible refine bodyQ_ret1 ?_); (try simp only [EVB, Nat.reduceEqDiff, reduceIte]))
    | ((with_reducible refine bodyQ_ret2 ?_); (try simp only [EVB, Nat.reduceEqDiff, reduceIte]))
    | ((with_reducible refine bodyQ_ret3 ?_); (try simp only [EVB, Nat.reduceEqDiff, reduceIte]))
    | ((with_reducible refine bodyQ_ret4 ?_); (try simp only [EVB, Nat.reduceEqDiff, reduceIte]))
    | (with_reducible refine Cont.use (by assumption) ?_)
    | ((with_reducible show W _ _ (.cond _ _ _) _ _ _); refine W_condI (by simp (disch := first | ((with_reducible show isStop _ = false); rfl) | ((with_reducible show isP _ = true); rfl) | ((with_reducible show (isStop _ || isP _) = false); rfl) | assumption | (simp only [gt_some, gb_bool, gb_undef, EVB, Option.bind_some, Nat.reduceEqDiff, reduceIte, beq_self_eq_true, Bool.not_true, Bool.not_false, beq_true, beq_false]; done) | omega | (with_reducible decide) | (simp only [List.length_cons, List.length_nil, List.size_toArray, List.toList_toArray, List.all_cons, List.all_nil, Go.Proofs.YtdfgdpjlbcnkfaaDoorAbs.oneC, Bool.and_self, Go.Proofs.YtdfgdpjlbcnkfaaDoorAbs.St.next_push, Go.Proofs.YtdfgdpjlbcnkfaaDoorAbs.St.next_upd, Nat.zero_add, Nat.reduceAdd, Nat.reduceLeDiff, Nat.le_refl, Nat.zero_le] <;> omega)) only [↓DN, ↓reduceIte, UP, Int.reduceEq, Int.reduceLT, Int.reduceLE, Nat.reduceEqDiff, Nat.reduceAdd, Nat.reduceMul, Nat.reduceSub, Int.reduceToNat, Nat.reduceLeDiff, PF, isStop, isP, goInt, beq_self_eq_true, decide_true, decide_false, Int.toNat_natCast, nn_eq, nn_ne, hd, e0, e1, e5]; rfl) (fun ht => ?_) (fun ht => ?_) <;> (first | (simp only [Bool.true_eq_false, Bool.false_eq_true] at ht; done) | ((try simp only [Bool.not_eq_true', Bool.not_eq_false'] at ht); (try simp only [ht]); (try simp only [HTN] at ht); (try (exfalso; omega)))))
    | ((with_reducible show W _ _ (.region _ _ true) _ _ _); first | (refine W_drawn (fl := [true, true, true, true, true, true, true, true, true]) (by kernel_rfl) ?_))
    | ((with_reducible refine W_regionI ?_); simp (disch := first | ((with_reducible show isStop _ = false); rfl) | ((with_reducible show isP _ = true); rfl) | ((with_reducible show (isStop _ || isP _) = false); rfl) | assumption | (simp only [gt_some, gb_bool, gb_undef, EVB, Option.bind_some, Nat.reduceEqDiff, reduceIte, beq_self_eq_true, Bool.not_true, Bool.not_false, beq_true, beq_false]; done) | omega | (with_reducible decide) | (simp only [List.length_cons, List.length_nil, List.size_toArray, List.toList_toArray, List.all_cons, List.all_nil, Go.Proofs.YtdfgdpjlbcnkfaaDoorAbs.oneC, Bool.and_self, Go.Proofs.YtdfgdpjlbcnkfaaDoorAbs.St.next_push, Go.Proofs.YtdfgdpjlbcnkfaaDoorAbs.St.next_upd, Nat.zero_add, Nat.reduceAdd, Nat.reduceLeDiff, Nat.le_refl, Nat.zero_le] <;> omega)) only [↓DN, ↓reduceIte, UP, Int.reduceEq, Int.reduceLT, Int.reduceLE, Nat.reduceEqDiff, Nat.reduceAdd, Nat.reduceMul, Nat.reduceSub, Int.reduceToNat, Nat.reduceLeDiff, PF, isStop, isP, goInt, beq_self_eq_true, decide_true, decide_false, Int.toNat_natCast, nn_eq, nn_ne, hd, e0, e1, e5])
    | ((first | (with_reducible show O _ _ _ _ _ _ _ _) | (with_reducible show OK _ _ _ _ _ _ _ _ _) | (with_reducible show OKF _ _ _ _ _ _ _ _ _ _) | (with_reducible show OKT _ _ _ _ _ _ _ _ _ _ _ _) | (with_reducible show _ ∧ _)); simp (disch := first | ((with_reducible show isStop _ = false); rfl) | ((with_reducible show isP _ = true); rfl) | ((with_reducible show (isStop _ || isP _) = false); rfl) | assumption | (simp only [gt_some, gb_bool, gb_undef, EVB, Option.bind_some, Nat.reduceEqDiff, reduceIte, beq_self_eq_true, Bool.not_true, Bool.not_false, beq_true, beq_false]; done) | omega | (with_reducible decide) | (simp only [List.length_cons, List.length_nil, List.size_toArray, List.toList_toArray, List.all_cons, List.all_nil, Go.Proofs.YtdfgdpjlbcnkfaaDoorAbs.oneC, Bool.and_self, Go.Proofs.YtdfgdpjlbcnkfaaDoorAbs.St.next_push, Go.Proofs.YtdfgdpjlbcnkfaaDoorAbs.St.next_upd, Nat.zero_add, Nat.reduceAdd, Nat.reduceLeDiff, Nat.le_refl, Nat.zero_le] <;> omega)) only [↓DN, ↓reduceIte, UP, Int.reduceEq, Int.reduceLT, Int.reduceLE, Nat.reduceEqDiff, Nat.reduceAdd, Nat.reduceMul, Nat.reduceSub, Int.reduceToNat, Nat.reduceLeDiff, PF, isStop, isP, goInt, beq_self_eq_true, decide_true, decide_false, Int.toNat_natCast, nn_eq, nn_ne, hd, e0, e1, e5])
    | ((with_reducible show O _ _ _ (⟨_, _, _, _, _, some _⟩ :: _) _ _ _ _); refine O_split (by simp (disch := first | ((with_reducible show isStop _ = false); rfl) | ((with_reducible show isP _ = true); rfl) | ((with_reducible show (isStop _ || isP _) = false); rfl) | assumption | (simp only [gt_some, gb_bool, gb_undef, EVB, Option.bind_some, Nat.reduceEqDiff, reduceIte, beq_self_eq_true, Bool.not_true, Bool.not_false, beq_true, beq_false]; done) | omega | (with_reducible decide) | (simp only [List.length_cons, List.length_nil, List.size_toArray, List.toList_toArray, List.all_cons, List.all_nil, Go.Proofs.YtdfgdpjlbcnkfaaDoorAbs.oneC, Bool.and_self, Go.Proofs.YtdfgdpjlbcnkfaaDoorAbs.St.next_push, Go.Proofs.YtdfgdpjlbcnkfaaDoorAbs.St.next_upd, Nat.zero_add, Nat.reduceAdd, Nat.reduceLeDiff, Nat.le_refl, Nat.zero_le] <;> omega)) only [↓DN, ↓reduceIte, UP, Int.reduceEq, Int.reduceLT, Int.reduceLE, Nat.reduceEqDiff, Nat.reduceAdd, Nat.reduceMul, Nat.reduceSub, Int.reduceToNat, Nat.reduceLeDiff, PF, isStop, isP, goInt, beq_self_eq_true, decide_true, decide_false, Int.toNat_natCast, nn_eq, nn_ne, hd, e0, e1, e5]; rfl) (fun ht => ?_) (fun ht => ?_) <;> (first | (simp only [Bool.true_eq_false, Bool.false_eq_true] at ht; done) | ((try simp only [Bool.not_eq_true', Bool.not_eq_false'] at ht); (try simp only [ht]); (try simp only [HTN] at ht); (try (exfalso; omega)))))
    | (exact hQ))
end
end Go.Proofs.YtdfgdpjlbcnkfaaDoor.Q
