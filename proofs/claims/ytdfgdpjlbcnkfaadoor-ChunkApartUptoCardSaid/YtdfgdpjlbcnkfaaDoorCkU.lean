/- The chunk reader on the runner: its functions, the law that feeds it, the plain part; for the inputs that each theorem names. -/
import Derived.Test.YtdfgdpjlbcnkfaaDoorCkT
-- UF: CkFacts
namespace Go.Proofs.YtdfgdpjlbcnkfaaDoor.Q
open Go Go.Proofs.YtdfgdpjlbcnkfaaDoorAbs Go.Proofs
set_option linter.unusedVariables false
set_option linter.unusedSimpArgs false
set_option maxRecDepth 100000
set_option maxHeartbeats 4000000
attribute [local irreducible] Go.Proofs.YtdfgdpjlbcnkfaaDoorAbs.O Go.Proofs.YtdfgdpjlbcnkfaaDoorAbs.W Go.Proofs.YtdfgdpjlbcnkfaaDoorAbs.C Go.Proofs.YtdfgdpjlbcnkfaaDoorAbs.OK Go.Proofs.YtdfgdpjlbcnkfaaDoorAbs.OKF Go.Proofs.YtdfgdpjlbcnkfaaDoorAbs.OKT Go.Proofs.YtdfgdpjlbcnkfaaDoorAbs.then_ Go.Proofs.YtdfgdpjlbcnkfaaDoorAbs.inBlock_ Go.Proofs.YtdfgdpjlbcnkfaaDoorAbs.bodyQ Go.Proofs.YtdfgdpjlbcnkfaaDoorAbs.Cont
section
variable {I : Prims} {S : St} {Q : Value → St → Prop}
def trailerF (r : PRd) (c : UInt8) : PRd :=
  if r.state = 7 then endsF r c
  else if r.text.length = 0 ∧ (c.toNat : Int) = 13 then { r with state := 7 }
  else if 8192 < IntKind.i64.wrap (r.sum + 1) then { r with sum := IntKind.i64.wrap (r.sum + 1), err := some 22 }
  else if r.text.length = 0 ∧ r.trailers.length = 64 then { r with sum := IntKind.i64.wrap (r.sum + 1), err := some 21 }
  else if (c.toNat : Int) = 13 ∧ 0 < Go.Lib.indexByte r.text 58 then { r with sum := IntKind.i64.wrap (r.sum + 1), state := 7 }
  else if (¬ (c.toNat : Int) = 13 ∧ 0 < Go.Lib.indexByte r.text 58 ∧ valB c.toNat = true) ∨ (¬ (c.toNat : Int) = 13 ∧ Go.Lib.indexByte r.text 58 < 0 ∧ (tokB c.toNat = true ∨ (c.toNat : Int) = 58 ∧ ¬ r.text.length = 0)) then { r with sum := IntKind.i64.wrap (r.sum + 1), text := r.text ++ [c] }
  else { r with sum := IntKind.i64.wrap (r.sum + 1), err := some 21 }
theorem trailer_C (h : HI I) {b m : Nat} {r : PRd} {tv lv : Value} {c : UInt8} (hR : Rd S b r tv lv m) (hs : r.text.length ≤ 8192) (hl : r.trailers.length ≤ 64) (hcol : r.state = 7 → r.text ≠ [] → 0 ≤ Go.Lib.indexByte r.text 58)
    (hQ : ∀ S' tv' lv' m', Rd S' b (trailerF r c) tv' lv' m' → Mv S S' b tv lv tv' lv' → Q (.tuple #[]) S') :
    C Tryd.prog I 46 #[.pointer (some ⟨b, 0, some 11⟩), .int .u8 c.toNat] S Q := by
  refine C_body (rs := []) (h.no 46 (by decide)) Tryd.func46 rfl rfl ok46 ?_
  obtain ⟨ta, tc, rfl⟩ := own_slice hR.text
  obtain ⟨la, lc, rfl⟩ := own_slice hR.trl
  have hb := hR.cell; have hm := hR.hm; have hn := hR.hn
  simp only [CR.as, CR.cells] at hb
  obtain ⟨u22, sz5, u5, u9, u3, u29, u34, u33, sz3, u4, u41, sz66, u46, sz28, u47, u52, sz22, sz62, sz24, sz59, u59, sz60, u60, sz41, sz58, u58, sz73, sz34, sz4, sz9, sz83, u88, sz86, u112, sz118, u118, u2, sz126, u126, u21, sz130, u130, u139, u140, sz141, u141, u145, u148, sz147, u154, u155⟩ := UF
  have e58 : (Int.toNat 58).toUInt8 = 58 := by decide
  have hid : ∀ B : Blk, Own 5 1 (S.upd b B) (.slice ta r.text.length tc) r.text.length (u8v r.text) := fun B => own_upd hR.text hR.n1
  repeat' (first
    | (with_reducible refine W_pushC fun K hK => ?_)
    | (with_reducible refine W_blockI ?_)
    | (with_reducible refine W_scopeI ?_)
    | (with_reducible refine W_labelI ?_)
    | (with_reducible refine W_skipI ?_)
    | (with_reducible refine W_retI ?_)
    | (with_reducible refine W_exitI ?_)
    | (with_reducible refine then_normalI ?_)
    | (with_reducible refine then_retI ?_)
    | (with_reducible refine then_exitI ?_)
    | (with_reducible refine inBlock_normalI ?_)
    | (with_reducible refine inBlock_retI ?_)
    | (with_reducible refine inBlock_exitI ?_)
    | (with_reducible refine inBlock_exitN (by decide) ?_)
    | ((with_reducible refine bodyQ_normal0 ?_); (try simp only [EVB, Nat.reduceEqDiff, reduceIte]))
    | ((with_reducible refine bodyQ_normal1 ?_); (try simp only [EVB, Nat.reduceEqDiff, reduceIte]))
    | ((with_reducible refine bodyQ_normal2 ?_); (try simp only [EVB, Nat.reduceEqDiff, reduceIte]))
    | ((with_reducible refine bodyQ_normal3 ?_); (try simp only [EVB, Nat.reduceEqDiff, reduceIte]))
    | ((with_reducible refine bodyQ_normal4 ?_); (try simp only [EVB, Nat.reduceEqDiff, reduceIte]))
    | ((with_reducible refine bodyQ_ret0 ?_); (try simp only [EVB, Nat.reduceEqDiff, reduceIte]))
    | ((with_reducible refine bodyQ_ret1 ?_); (try simp only [EVB, Nat.reduceEqDiff, reduceIte]))
    | ((with_reducible refine bodyQ_ret2 ?_); (try simp only [EVB, Nat.reduceEqDiff, reduceIte]))
    | ((with_reducible refine bodyQ_ret3 ?_); (try simp only [EVB, Nat.reduceEqDiff, reduceIte]))
    | ((with_reducible refine bodyQ_ret4 ?_); (try simp only [EVB, Nat.reduceEqDiff, reduceIte]))
    | ((with_reducible show C _ _ _ _ _ _); first | (refine ends_C h hR (by simp) hs hl (hcol (by assumption)) (fun S' tv' lv' m' h1 h2 => ?_); (have hF : endsF r c = trailerF r c := by grind [trailerF]); (rw [hF] at h1)) | (refine h.idxB _ _ _ _ _ _ (hid _) ?_) | (refine Value_C (h.no 39 (by decide)) ?_) | (refine Token_C (h.no 54 (by decide)) (h.no 66 (by decide)) (h.no 67 (by decide)) h.idxS ?_))
    | (with_reducible refine Cont.use (by assumption) ?_)
    | ((refine O_append (P := Tryd.prog) (elem := 5) (size := 1) (bytes := 1) (n := r.text.length) (m := 1) (xs := u8v r.text) (ys := [.int .u8 c.toNat]) u22 sz5 by5 ze5 ⟨by decide, by decide, rfl⟩ (by simp only [EVB, Nat.reduceEqDiff, reduceIte]; exact own_push (hid _)) (by simp only [EVB, Nat.reduceEqDiff, reduceIte]; exact asrc_own_lit u22 (St.get_push_self _ _) (Nat.zero_le _) rfl rfl) ⟨rfl, rfl⟩ (by omega) (fun v1 S3 hO hKp hB => ?_)); (simp only [EVB, Nat.reduceEqDiff, reduceIte] at hKp hB); (have hb3 := hKp.2 b (by simp only [St.next_push, St.next_upd]; omega) (by simpa using hR.n1)); (rw [St.get_push_ne _ _ (by exact Nat.ne_of_lt hn), St.get_upd_self] at hb3); (replace hb := hb3); (have hn3 := Nat.lt_of_lt_of_le (show b < S.next + 1 by omega) hKp.1); (obtain ⟨a1, c1, rfl⟩ := own_slice hO))
    | ((with_reducible show W _ _ (.cond _ _ _) _ _ _); refine W_condI (by simp (disch := first | ((with_reducible show isStop _ = false); rfl) | ((with_reducible show isP _ = true); rfl) | ((with_reducible show (isStop _ || isP _) = false); rfl) | assumption | (simp only [gt_some, gb_bool, gb_undef, EVB, Option.bind_some, Nat.reduceEqDiff, reduceIte, beq_self_eq_true, Bool.not_true, Bool.not_false, beq_true, beq_false]; done) | omega | (with_reducible decide) | (simp only [List.length_cons, List.length_nil, List.size_toArray, List.toList_toArray, List.all_cons, List.all_nil, Go.Proofs.YtdfgdpjlbcnkfaaDoorAbs.oneC, Bool.and_self, Go.Proofs.YtdfgdpjlbcnkfaaDoorAbs.St.next_push, Go.Proofs.YtdfgdpjlbcnkfaaDoorAbs.St.next_upd, Nat.zero_add, Nat.reduceAdd, Nat.reduceLeDiff, Nat.le_refl, Nat.zero_le] <;> omega)) only [↓DN, ↓reduceIte, UP, Int.reduceEq, Int.reduceLT, Int.reduceLE, Nat.reduceEqDiff, Nat.reduceAdd, Nat.reduceMul, Nat.reduceSub, Int.reduceToNat, Nat.reduceLeDiff, PF, isStop, isP, goInt, beq_self_eq_true, decide_true, hb, e58]; rfl) (fun ht => ?_) (fun ht => ?_) <;> (first | (simp only [Bool.true_eq_false, Bool.false_eq_true] at ht; done) | ((try simp only [Bool.not_eq_true', Bool.not_eq_false'] at ht); (try simp only [ht]); (try simp only [HTN] at ht); (try (exfalso; omega)))))
    | ((with_reducible refine W_regionI ?_); simp (disch := first | ((with_reducible show isStop _ = false); rfl) | ((with_reducible show isP _ = true); rfl) | ((with_reducible show (isStop _ || isP _) = false); rfl) | assumption | (simp only [gt_some, gb_bool, gb_undef, EVB, Option.bind_some, Nat.reduceEqDiff, reduceIte, beq_self_eq_true, Bool.not_true, Bool.not_false, beq_true, beq_false]; done) | omega | (with_reducible decide) | (simp only [List.length_cons, List.length_nil, List.size_toArray, List.toList_toArray, List.all_cons, List.all_nil, Go.Proofs.YtdfgdpjlbcnkfaaDoorAbs.oneC, Bool.and_self, Go.Proofs.YtdfgdpjlbcnkfaaDoorAbs.St.next_push, Go.Proofs.YtdfgdpjlbcnkfaaDoorAbs.St.next_upd, Nat.zero_add, Nat.reduceAdd, Nat.reduceLeDiff, Nat.le_refl, Nat.zero_le] <;> omega)) only [↓DN, ↓reduceIte, UP, Int.reduceEq, Int.reduceLT, Int.reduceLE, Nat.reduceEqDiff, Nat.reduceAdd, Nat.reduceMul, Nat.reduceSub, Int.reduceToNat, Nat.reduceLeDiff, PF, isStop, isP, goInt, beq_self_eq_true, decide_true, hb, e58])
    | ((first | (with_reducible show O _ _ _ _ _ _ _ _) | (with_reducible show OK _ _ _ _ _ _ _ _ _) | (with_reducible show OKF _ _ _ _ _ _ _ _ _ _) | (with_reducible show OKT _ _ _ _ _ _ _ _ _ _ _ _) | (with_reducible show _ ∧ _)); simp (disch := first | ((with_reducible show isStop _ = false); rfl) | ((with_reducible show isP _ = true); rfl) | ((with_reducible show (isStop _ || isP _) = false); rfl) | assumption | (simp only [gt_some, gb_bool, gb_undef, EVB, Option.bind_some, Nat.reduceEqDiff, reduceIte, beq_self_eq_true, Bool.not_true, Bool.not_false, beq_true, beq_false]; done) | omega | (with_reducible decide) | (simp only [List.length_cons, List.length_nil, List.size_toArray, List.toList_toArray, List.all_cons, List.all_nil, Go.Proofs.YtdfgdpjlbcnkfaaDoorAbs.oneC, Bool.and_self, Go.Proofs.YtdfgdpjlbcnkfaaDoorAbs.St.next_push, Go.Proofs.YtdfgdpjlbcnkfaaDoorAbs.St.next_upd, Nat.zero_add, Nat.reduceAdd, Nat.reduceLeDiff, Nat.le_refl, Nat.zero_le] <;> omega)) only [↓DN, ↓reduceIte, UP, Int.reduceEq, Int.reduceLT, Int.reduceLE, Nat.reduceEqDiff, Nat.reduceAdd, Nat.reduceMul, Nat.reduceSub, Int.reduceToNat, Nat.reduceLeDiff, PF, isStop, isP, goInt, beq_self_eq_true, decide_true, hb, e58])
    | ((with_reducible show O _ _ _ (⟨_, _, _, _, _, some _⟩ :: _) _ _ _ _); refine O_split (by simp (disch := first | ((with_reducible show isStop _ = false); rfl) | ((with_reducible show isP _ = true); rfl) | ((with_reducible show (isStop _ || isP _) = false); rfl) | assumption | (simp only [gt_some, gb_bool, gb_undef, EVB, Option.bind_some, Nat.reduceEqDiff, reduceIte, beq_self_eq_true, Bool.not_true, Bool.not_false, beq_true, beq_false]; done) | omega | (with_reducible decide) | (simp only [List.length_cons, List.length_nil, List.size_toArray, List.toList_toArray, List.all_cons, List.all_nil, Go.Proofs.YtdfgdpjlbcnkfaaDoorAbs.oneC, Bool.and_self, Go.Proofs.YtdfgdpjlbcnkfaaDoorAbs.St.next_push, Go.Proofs.YtdfgdpjlbcnkfaaDoorAbs.St.next_upd, Nat.zero_add, Nat.reduceAdd, Nat.reduceLeDiff, Nat.le_refl, Nat.zero_le] <;> omega)) only [↓DN, ↓reduceIte, UP, Int.reduceEq, Int.reduceLT, Int.reduceLE, Nat.reduceEqDiff, Nat.reduceAdd, Nat.reduceMul, Nat.reduceSub, Int.reduceToNat, Nat.reduceLeDiff, PF, isStop, isP, goInt, beq_self_eq_true, decide_true, hb, e58]; rfl) (fun ht => ?_) (fun ht => ?_) <;> (first | (simp only [Bool.true_eq_false, Bool.false_eq_true] at ht; done) | ((try simp only [Bool.not_eq_true', Bool.not_eq_false'] at ht); (try simp only [ht]); (try simp only [HTN] at ht); (try (exfalso; omega)))))
    | (exact hQ _ _ _ _ h1 h2)
    | ((refine hQ _ _ _ 11 (hR.upd (trailerF r c) ?_ ?_ ?_) Mv.upd <;> grind [trailerF, CR.as, CR.cells, errW]))
    | ((have hF : trailerF r c = { r with sum := IntKind.i64.wrap (r.sum + 1), text := r.text ++ [c] } := by grind [trailerF]); obtain ⟨h1, h2⟩ := hR.text1 (r' := trailerF r c) kept_upd_push hO hKp hB (by rw [hF]) rfl (by rw [hF]); refine hQ _ _ _ _ (cast (congrArg (fun s => Rd s _ _ _ _ _) ?_) h1) (cast (congrArg (fun s => Mv _ s _ _ _ _ _) ?_) h2) <;> (rw [hF]; simp [CR.as, CR.cells])))
end
end Go.Proofs.YtdfgdpjlbcnkfaaDoor.Q
