/- What the law BodyLimits needs, part 4: the runner over a plain memory, words, the functions that it reaches, each by its own contract; for the inputs that each theorem names. -/
import Derived.Test.YtdfgdpjlbcnkfaaDoorBodyLimitsP3
import Derived.Test.YtdfgdpjlbcnkfaaDoorBodyLimitsP2
import Derived.Below
import Derived.Deep.Draws
import Derived.Deep.AppendLies
import Derived.Maps.AppendAt
import Derived.OwnWalk
import Derived.Laws.BytesArg
import Derived.Laws.MakeOwn
import Derived.Laws.OwnMore
import Derived.Deep.OwnRows
import Derived.Tactics
import Derived.Lib.ConvBytes
import Derived.Laws.Slices
import Derived.WalkKit
import Derived.KernelRfl
import Derived.RowKit3
import Derived.Deep.LoopGhost
import Derived.Deep.QuietTactic
import Derived.BigQuiet
import Derived.WideLaws
import Derived.Deep.DeepCutAuto
import Derived.Deep.CutBlock
import Derived.Deep.RegionHeld3
import Derived.Laws.Rows
import Derived.Lib.AppendStr
import Derived.ArgAppend
import Derived.Laws.IdiomCopy
import Derived.RowKit
import Derived.Lib.LaidU8
import Derived.MakeChecks
import Derived.LaidHandle
import Derived.OrdersHeld
import Derived.Laws.BitsLemmas
import Derived.LaidEql
import Derived.Stop.Asserts
import Derived.RowKitTokens
import Derived.IntWalk
namespace Go.Proofs.YtdfgdpjlbcnkfaaDoor.Q
open Go Go.Proofs.YtdfgdpjlbcnkfaaDoorAbs Go.Proofs
set_option linter.unusedVariables false
set_option linter.unusedSimpArgs false
set_option maxRecDepth 100000
set_option maxHeartbeats 4000000
attribute [local irreducible] Go.Proofs.YtdfgdpjlbcnkfaaDoorAbs.O Go.Proofs.YtdfgdpjlbcnkfaaDoorAbs.W Go.Proofs.YtdfgdpjlbcnkfaaDoorAbs.C Go.Proofs.YtdfgdpjlbcnkfaaDoorAbs.OK Go.Proofs.YtdfgdpjlbcnkfaaDoorAbs.OKF Go.Proofs.YtdfgdpjlbcnkfaaDoorAbs.OKT Go.Proofs.YtdfgdpjlbcnkfaaDoorAbs.then_ Go.Proofs.YtdfgdpjlbcnkfaaDoorAbs.inBlock_ Go.Proofs.YtdfgdpjlbcnkfaaDoorAbs.bodyQ Go.Proofs.YtdfgdpjlbcnkfaaDoorAbs.Cont
section
variable {I : Prims} {S S0 : St} {Q : Value → St → Prop} {e : Env}
theorem O_accBF {ops : Array Oper} {r : List Oper} {fl : List Bool} {dst : Option Tmp} {ty : TypeId} {pos : String} {after : Array Edge} {s x : Operand} {a c : List UInt8} {R : Env → St → Prop} (ha : Acc S0 S (e.ev s) a) (hx : Sl S (e.ev x) c) (hl : a.length + c.length ≤ 1099511627776)
    (hk : ∀ v' S', Acc S0 S' v' (a ++ c) → O Tryd.prog I ops r fl R (e.putO dst v') S') : O Tryd.prog I ops (⟨dst, .call ⟨.builtin .append, #[s, x], #[22, 22]⟩, ty, pos, after, none⟩ :: r) (false :: fl) R e S :=
  O_appendF (P := Tryd.prog) (elem := 5) (size := 1) (bytes := 1) (n := a.length) (m := c.length) (xs := u8v a) (ys := u8v c) u22 sz5 by5 ze5 ⟨by decide, by decide, rfl⟩ ha.own (sl_src hx) ⟨by simp [u8v], u8v_one _⟩ (by omega) fun v' S' hO hK hB => hk v' S' (acc_step ha hO hK hB)
theorem O_accSF {ops : Array Oper} {r : List Oper} {fl : List Bool} {dst : Option Tmp} {ty : TypeId} {pos : String} {after : Array Edge} {s x : Operand} {a c : List UInt8} {R : Env → St → Prop} (ha : Acc S0 S (e.ev s) a) (hx : e.ev x = .string ⟨c.toArray⟩) (hl : a.length + c.length ≤ 1099511627776)
    (hk : ∀ v' S', Acc S0 S' v' (a ++ c) → O Tryd.prog I ops r fl R (e.putO dst v') S') : O Tryd.prog I ops (⟨dst, .call ⟨.builtin .append, #[s, x], #[22, 9]⟩, ty, pos, after, none⟩ :: r) (false :: fl) R e S :=
  O_appendF (P := Tryd.prog) (elem := 5) (size := 1) (bytes := 1) (n := a.length) (m := c.length) (xs := u8v a) (ys := u8v c) u22 sz5 by5 ze5 ⟨by decide, by decide, rfl⟩ ha.own (by rw [hx]; simp [asrc, u9, byteCells, u8v, ByteArray.size]) ⟨by simp [u8v], u8v_one _⟩ (by omega) fun v' S' hO hK hB => hk v' S' (acc_step ha hO hK hB)
theorem whole_ok (h : HB I) {k l most : Int} {v : Value} {xs ys : List UInt8} {n : Int} (hA : Acc S0 S v xs) (hxn : xs.length ≤ 1099511627776) (hm2 : most ≤ 9223372036854775807) (hw : wholeB k l most xs = (ys, n, none))
    (hQ : ∀ x S', Acc S S' x ys → Q (.tuple #[x, .int .i64 n, .nilIface]) S') : C Tryd.prog I 9 #[.agg #[.int .i64 k, .int .i64 l], .int .i64 most, v] S Q := by
  refine Whole_C h hA.sl (sv_own hA.own) hxn (fun i e => own_lt hA.own e) hm2 (fun v' S' hO hK hN => ?_)
  rw [hw] at hO ⊢
  exact hQ v' S' (acc_new hO hK hN)
theorem whole_bad (h : HB I) {k l most : Int} {v : Value} {xs : List UInt8} (hA : Acc S0 S v xs) (hxn : xs.length ≤ 1099511627776) (hm2 : most ≤ 9223372036854775807) (hw : wholeB k l most xs = ([], 0, some 33))
    (hQ : ∀ S', Kept S S' none → Q (.tuple #[.slice none 0 0, .int .i64 0, errW (some 33)]) S') : C Tryd.prog I 9 #[.agg #[.int .i64 k, .int .i64 l], .int .i64 most, v] S Q := by
  refine Whole_C h hA.sl (sv_own hA.own) hxn (fun i e => own_lt hA.own e) hm2 (fun v' S' hO hK hN => ?_)
  rw [hw] at hO ⊢
  obtain rfl : v' = .slice none 0 0 := by
    rcases hO.2.2 with ⟨q, _⟩ | ⟨b, m, _, _, _, _, q⟩
    · exact q
    · exact absurd q (by simp)
  exact hQ S' hK
theorem limits_walk (h : HB I) {vb vo vL : Nat} {xs : List UInt8} {z : Int} (hx : Sl S (.slice (some ⟨vb, vo, some vL⟩) xs.length (UNK + 1)) xs) (hxn : xs.length ≤ 1048576) (hvn : vb < S.next) (h0 : S.get 0 = some geB) (h0n : 0 < S.next)
    (hQ : ∀ S', Q (.bool true) S') : C Tryd.prog I 6 #[.slice (some ⟨vb, vo, some vL⟩) xs.length (UNK + 1), .int .i64 z] S Q := by
  refine C_body (rs := [.tmp 4]) (h.no 6 (by decide)) Tryd.func6 rfl rfl ok6 ?_
  obtain ⟨u22, sz5, u5, u9, u3, u29, u34, u33, sz3, u4, u41, sz66, u46, sz28, u47, u52, sz22, sz62, sz24, sz59, u59, sz60, u60, sz41, sz58, u58, sz73, sz34, sz4, sz9, sz83, u88, sz86, u112, sz118, u118, u2, sz126, u126, u21, sz130, u130, u139, u140, sz141, u141, u145, u148, sz147, u154, u155⟩ := UF
  have ki := ki24
  by_cases hb : xs.length < 1 ∨ 5000 < xs.length
  · have hd : (if decide ((xs.length : Int) < 1) = true then true else decide ((5000 : Int) < (xs.length : Int))) = true := by
      rcases hb with q | q
      · rw [if_pos (by simp; omega)]
      · split <;> simp; omega
    by_cases hb1 : xs.length < 1
    · have d1 : decide ((xs.length : Int) < 1) = true := decide_eq_true (by omega)
      repeat' (first
    | (with_reducible first | refine W_pushC fun K hK => ?_ | refine W_blockI ?_ | refine W_scopeI ?_ | refine W_labelI ?_ | refine W_skipI ?_ | refine W_retI ?_ | refine W_exitI ?_ | refine then_normalI ?_ | refine then_retI ?_ | refine then_exitI ?_ | refine inBlock_normalI ?_ | refine inBlock_retI ?_ | refine inBlock_exitI ?_ | refine inBlock_exitN (by decide) ?_)
    | ((with_reducible first | refine bodyQ_normal0 ?_ | refine bodyQ_normal1 ?_ | refine bodyQ_normal2 ?_ | refine bodyQ_normal3 ?_ | refine bodyQ_normal4 ?_ | refine bodyQ_ret0 ?_ | refine bodyQ_ret1 ?_ | refine bodyQ_ret2 ?_ | refine bodyQ_ret3 ?_ | refine bodyQ_ret4 ?_); (try simp only [EVB, Nat.reduceEqDiff, reduceIte]))
    | ((with_reducible show C _ _ _ _ _ _); first | (refine h.sure _ _ ?_))
    | (with_reducible refine Cont.use (by assumption) ?_)
    | (with_reducible first | refine hcA ?_ | refine hcB ?_)
    | ((with_reducible first | refine W_condG fun cA cB hcA hcB => ?_ | refine W_regionI ?_ | show O _ _ _ _ _ _ _ _ | show OK _ _ _ _ _ _ _ _ _ | show OKF _ _ _ _ _ _ _ _ _ _ | show OKT _ _ _ _ _ _ _ _ _ _ _ _ | show _ ∧ _ | show CG _ _ _ | show CB _ _ _); simp (disch := first | ((with_reducible show isStop _ = false); rfl) | ((with_reducible show isP _ = true); rfl) | ((with_reducible show (isStop _ || isP _) = false); rfl) | assumption | (simp only [GSB, Nat.reduceEqDiff, reduceIte]; done) | omega | (with_reducible decide) | (simp only [DSB, Go.Proofs.YtdfgdpjlbcnkfaaDoorAbs.oneC, Nat.reduceAdd, Nat.reduceLeDiff] <;> omega)) only [↓DN, ↓reduceIte, UP, CGB, Int.reduceEq, Int.reduceLT, Int.reduceLE, Nat.reduceEqDiff, Nat.reduceAdd, Nat.reduceMul, Nat.reduceSub, Int.reduceToNat, Nat.reduceLeDiff, PF, isStop, isP, goInt, beq_self_eq_true, decide_true, decide_false, Int.toNat_natCast, Int.natCast_zero, nn_eq, nn_ne, d1])
    | ((with_reducible refine CB_intro (fun ht => hcA ?_) (fun ht => hcB ?_)) <;> (first | (simp only [Bool.true_eq_false, Bool.false_eq_true] at ht; done) | ((try simp only [Bool.not_eq_true', Bool.not_eq_false'] at ht); (try simp only [ht]); (try simp only [HTN] at ht); (try (exfalso; omega)))))
    | ((with_reducible refine W_regionI ?_); simp only [List.append_eq, List.cons_append, List.nil_append])
    | (with_reducible refine O_splitG fun cA cB hcA hcB => ?_)
    | (exact hQ _))
    · have d1 : decide ((xs.length : Int) < 1) = false := decide_eq_false (by omega)
      have d2 : decide ((5000 : Int) < (xs.length : Int)) = true := decide_eq_true (by omega)
      repeat' (first
    | (with_reducible first | refine W_pushC fun K hK => ?_ | refine W_blockI ?_ | refine W_scopeI ?_ | refine W_labelI ?_ | refine W_skipI ?_ | refine W_retI ?_ | refine W_exitI ?_ | refine then_normalI ?_ | refine then_retI ?_ | refine then_exitI ?_ | refine inBlock_normalI ?_ | refine inBlock_retI ?_ | refine inBlock_exitI ?_ | refine inBlock_exitN (by decide) ?_)
    | ((with_reducible first | refine bodyQ_normal0 ?_ | refine bodyQ_normal1 ?_ | refine bodyQ_normal2 ?_ | refine bodyQ_normal3 ?_ | refine bodyQ_normal4 ?_ | refine bodyQ_ret0 ?_ | refine bodyQ_ret1 ?_ | refine bodyQ_ret2 ?_ | refine bodyQ_ret3 ?_ | refine bodyQ_ret4 ?_); (try simp only [EVB, Nat.reduceEqDiff, reduceIte]))
    | ((with_reducible show C _ _ _ _ _ _); first | (refine h.sure _ _ ?_))
    | (with_reducible refine Cont.use (by assumption) ?_)
    | (with_reducible first | refine hcA ?_ | refine hcB ?_)
    | ((with_reducible first | refine W_condG fun cA cB hcA hcB => ?_ | refine W_regionI ?_ | show O _ _ _ _ _ _ _ _ | show OK _ _ _ _ _ _ _ _ _ | show OKF _ _ _ _ _ _ _ _ _ _ | show OKT _ _ _ _ _ _ _ _ _ _ _ _ | show _ ∧ _ | show CG _ _ _ | show CB _ _ _); simp (disch := first | ((with_reducible show isStop _ = false); rfl) | ((with_reducible show isP _ = true); rfl) | ((with_reducible show (isStop _ || isP _) = false); rfl) | assumption | (simp only [GSB, Nat.reduceEqDiff, reduceIte]; done) | omega | (with_reducible decide) | (simp only [DSB, Go.Proofs.YtdfgdpjlbcnkfaaDoorAbs.oneC, Nat.reduceAdd, Nat.reduceLeDiff] <;> omega)) only [↓DN, ↓reduceIte, UP, CGB, Int.reduceEq, Int.reduceLT, Int.reduceLE, Nat.reduceEqDiff, Nat.reduceAdd, Nat.reduceMul, Nat.reduceSub, Int.reduceToNat, Nat.reduceLeDiff, PF, isStop, isP, goInt, beq_self_eq_true, decide_true, decide_false, Int.toNat_natCast, Int.natCast_zero, nn_eq, nn_ne, d1, d2])
    | ((with_reducible refine CB_intro (fun ht => hcA ?_) (fun ht => hcB ?_)) <;> (first | (simp only [Bool.true_eq_false, Bool.false_eq_true] at ht; done) | ((try simp only [Bool.not_eq_true', Bool.not_eq_false'] at ht); (try simp only [ht]); (try simp only [HTN] at ht); (try (exfalso; omega)))))
    | ((with_reducible refine W_regionI ?_); simp only [List.append_eq, List.cons_append, List.nil_append])
    | (with_reducible refine O_splitG fun cA cB hcA hcB => ?_)
    | (exact hQ _))
  have d1 : decide ((xs.length : Int) < 1) = false := decide_eq_false (by omega)
  have d2 : decide ((5000 : Int) < (xs.length : Int)) = false := decide_eq_false (by omega)
  obtain ⟨j, hj, hjc⟩ := cut_at (z := z) (n := xs.length) (by omega)
  obtain ⟨q1, q2, q3⟩ : 0 < xs.length ∧ j < xs.length ∧ IntKind.i64.wrap ((IntKind.u64.wrap z).tmod (xs.length : Int)) = (j : Int) := by
    rcases hjc with q | ⟨q, _⟩
    · exact q
    · omega
  have wl : IntKind.u64.wrap (xs.length : Int) = (xs.length : Int) := Go.Proofs.YtdfgdpjlbcnkfaaDoorAbs.wpu64 (by omega) (by omega)
  have dz : (xs.length : Int) ≠ 0 := by omega
  repeat' (first
    | (with_reducible first | refine W_pushC fun K hK => ?_ | refine W_blockI ?_ | refine W_scopeI ?_ | refine W_labelI ?_ | refine W_skipI ?_ | refine W_retI ?_ | refine W_exitI ?_ | refine then_normalI ?_ | refine then_retI ?_ | refine then_exitI ?_ | refine inBlock_normalI ?_ | refine inBlock_retI ?_ | refine inBlock_exitI ?_ | refine inBlock_exitN (by decide) ?_)
    | ((with_reducible first | refine bodyQ_normal0 ?_ | refine bodyQ_normal1 ?_ | refine bodyQ_normal2 ?_ | refine bodyQ_normal3 ?_ | refine bodyQ_normal4 ?_ | refine bodyQ_ret0 ?_ | refine bodyQ_ret1 ?_ | refine bodyQ_ret2 ?_ | refine bodyQ_ret3 ?_ | refine bodyQ_ret4 ?_); (try simp only [EVB, Nat.reduceEqDiff, reduceIte]))
    | (with_reducible refine Cont.use (by assumption) ?_)
    | (with_reducible first | refine hcA ?_ | refine hcB ?_)
    | ((with_reducible first | refine W_condG fun cA cB hcA hcB => ?_ | refine W_regionI ?_ | show O _ _ _ _ _ _ _ _ | show OK _ _ _ _ _ _ _ _ _ | show OKF _ _ _ _ _ _ _ _ _ _ | show OKT _ _ _ _ _ _ _ _ _ _ _ _ | show _ ∧ _ | show CG _ _ _ | show CB _ _ _); simp (disch := first | ((with_reducible show isStop _ = false); rfl) | ((with_reducible show isP _ = true); rfl) | ((with_reducible show (isStop _ || isP _) = false); rfl) | assumption | (simp only [GSB, Nat.reduceEqDiff, reduceIte]; done) | omega | (with_reducible decide) | (simp only [DSB, Go.Proofs.YtdfgdpjlbcnkfaaDoorAbs.oneC, Nat.reduceAdd, Nat.reduceLeDiff] <;> omega)) only [↓DN, ↓reduceIte, UP, CGB, Int.reduceEq, Int.reduceLT, Int.reduceLE, Nat.reduceEqDiff, Nat.reduceAdd, Nat.reduceMul, Nat.reduceSub, Int.reduceToNat, Nat.reduceLeDiff, PF, isStop, isP, goInt, beq_self_eq_true, decide_true, decide_false, Int.toNat_natCast, Int.natCast_zero, nn_eq, nn_ne, d1, d2, wl, dz, q3])
    | ((with_reducible refine CB_intro (fun ht => hcA ?_) (fun ht => hcB ?_)) <;> (first | (simp only [Bool.true_eq_false, Bool.false_eq_true] at ht; done) | ((try simp only [Bool.not_eq_true', Bool.not_eq_false'] at ht); (try simp only [ht]); (try simp only [HTN] at ht); (try (exfalso; omega)))))
    | ((with_reducible refine W_regionI ?_); simp only [List.append_eq, List.cons_append, List.nil_append])
    | (with_reducible refine O_splitG fun cA cB hcA hcB => ?_))
  refine O_accB (S0 := S) (a := []) (c := xs) (by simp only [EVB, Nat.reduceEqDiff, reduceIte]; exact Acc.nil S) (by simp only [EVB, Nat.reduceEqDiff, reduceIte]; exact hx) (by simp; omega) fun v1 S1 hA1 => ?_
  rw [List.nil_append] at hA1
  have hs1 := aslice_to (b := vb) (o := vo) (s := some vL) hj
  have hs2 := aslice_from (b := vb) (o := vo) (s := some vL) hj
  have hlj : (xs.take j).length = j := by simp; omega
  have hld : (xs.drop j).length = xs.length - j := by simp
  have len1 := encB_len (xs.take j) (by rw [List.length_take]; omega)
  have len2 := encB_len (xs.drop j) (by rw [List.length_drop]; omega)
  rw [List.length_take] at len1
  rw [List.length_drop] at len2
  have hSj := sl_sub (k := 0) (j := j) (sl_kept hx hA1.kept (by simp)) rfl (by omega)
  rw [List.drop_zero, Nat.add_zero] at hSj
  repeat' (first
    | (with_reducible first | refine W_pushC fun K hK => ?_ | refine W_blockI ?_ | refine W_scopeI ?_ | refine W_labelI ?_ | refine W_skipI ?_ | refine W_retI ?_ | refine W_exitI ?_ | refine then_normalI ?_ | refine then_retI ?_ | refine then_exitI ?_ | refine inBlock_normalI ?_ | refine inBlock_retI ?_ | refine inBlock_exitI ?_ | refine inBlock_exitN (by decide) ?_)
    | ((with_reducible first | refine bodyQ_normal0 ?_ | refine bodyQ_normal1 ?_ | refine bodyQ_normal2 ?_ | refine bodyQ_normal3 ?_ | refine bodyQ_normal4 ?_ | refine bodyQ_ret0 ?_ | refine bodyQ_ret1 ?_ | refine bodyQ_ret2 ?_ | refine bodyQ_ret3 ?_ | refine bodyQ_ret4 ?_); (try simp only [EVB, Nat.reduceEqDiff, reduceIte]))
    | ((with_reducible show C _ _ _ _ _ _); first | (refine REnc_C h hSj (by omega) (fun c1 S4 hO4 hK4 hN4 => ?_)))
    | (with_reducible refine Cont.use (by assumption) ?_)
    | (with_reducible first | refine hcA ?_ | refine hcB ?_)
    | ((with_reducible show W _ _ (.region _ _ true) _ _ _); first | (refine W_drawn (fl := [true, true, true, true, false, false, true, true, true, false, false, false, true]) (by kernel_rfl) ?_))
    | ((with_reducible first | refine W_condG fun cA cB hcA hcB => ?_ | refine W_regionI ?_ | show O _ _ _ _ _ _ _ _ | show OK _ _ _ _ _ _ _ _ _ | show OKF _ _ _ _ _ _ _ _ _ _ | show OKT _ _ _ _ _ _ _ _ _ _ _ _ | show _ ∧ _ | show CG _ _ _ | show CB _ _ _); simp (disch := first | ((with_reducible show isStop _ = false); rfl) | ((with_reducible show isP _ = true); rfl) | ((with_reducible show (isStop _ || isP _) = false); rfl) | assumption | (simp only [GSB, Nat.reduceEqDiff, reduceIte]; done) | omega | (with_reducible decide) | (simp only [DSB, Go.Proofs.YtdfgdpjlbcnkfaaDoorAbs.oneC, Nat.reduceAdd, Nat.reduceLeDiff] <;> omega)) only [↓DN, ↓reduceIte, UP, CGB, Int.reduceEq, Int.reduceLT, Int.reduceLE, Nat.reduceEqDiff, Nat.reduceAdd, Nat.reduceMul, Nat.reduceSub, Int.reduceToNat, Nat.reduceLeDiff, PF, isStop, isP, goInt, beq_self_eq_true, decide_true, decide_false, Int.toNat_natCast, Int.natCast_zero, nn_eq, nn_ne, hs1])
    | ((with_reducible refine CB_intro (fun ht => hcA ?_) (fun ht => hcB ?_)) <;> (first | (simp only [Bool.true_eq_false, Bool.false_eq_true] at ht; done) | ((try simp only [Bool.not_eq_true', Bool.not_eq_false'] at ht); (try simp only [ht]); (try simp only [HTN] at ht); (try (exfalso; omega)))))
    | ((with_reducible refine W_regionI ?_); simp only [List.append_eq, List.cons_append, List.nil_append])
    | (with_reducible refine O_splitG fun cA cB hcA hcB => ?_))
  refine O_accBF (S0 := S1) (a := []) (c := encB (xs.take j)) (by simp only [EVB, Nat.reduceEqDiff, reduceIte]; exact (Acc.nil S1).keep hK4) (by simp only [EVB, Nat.reduceEqDiff, reduceIte]; exact sl_own hO4) (by simp; omega) fun v5 S5 hA5 => ?_
  rw [List.nil_append] at hA5
  have hSd := sl_sub (k := j) (j := xs.length - j) (sl_kept hx (hA1.kept.trans hA5.kept) (by simp)) rfl (by omega)
  rw [List.take_of_length_le (show (xs.drop j).length ≤ xs.length - j by simp)] at hSd
  repeat' (first
    | (with_reducible first | refine W_pushC fun K hK => ?_ | refine W_blockI ?_ | refine W_scopeI ?_ | refine W_labelI ?_ | refine W_skipI ?_ | refine W_retI ?_ | refine W_exitI ?_ | refine then_normalI ?_ | refine then_retI ?_ | refine then_exitI ?_ | refine inBlock_normalI ?_ | refine inBlock_retI ?_ | refine inBlock_exitI ?_ | refine inBlock_exitN (by decide) ?_)
    | ((with_reducible first | refine bodyQ_normal0 ?_ | refine bodyQ_normal1 ?_ | refine bodyQ_normal2 ?_ | refine bodyQ_normal3 ?_ | refine bodyQ_normal4 ?_ | refine bodyQ_ret0 ?_ | refine bodyQ_ret1 ?_ | refine bodyQ_ret2 ?_ | refine bodyQ_ret3 ?_ | refine bodyQ_ret4 ?_); (try simp only [EVB, Nat.reduceEqDiff, reduceIte]))
    | ((with_reducible show C _ _ _ _ _ _); first | (refine REnc_C h hSd (by omega) (fun c2 S6 hO6 hK6 hN6 => ?_)))
    | (with_reducible refine Cont.use (by assumption) ?_)
    | (with_reducible first | refine hcA ?_ | refine hcB ?_)
    | ((with_reducible show W _ _ (.region _ _ true) _ _ _); first | (refine W_drawn (fl := [true, true, true, true, false, false, true, true, true, false, false, false, true]) (by kernel_rfl) ?_))
    | ((with_reducible first | refine W_condG fun cA cB hcA hcB => ?_ | refine W_regionI ?_ | show O _ _ _ _ _ _ _ _ | show OK _ _ _ _ _ _ _ _ _ | show OKF _ _ _ _ _ _ _ _ _ _ | show OKT _ _ _ _ _ _ _ _ _ _ _ _ | show _ ∧ _ | show CG _ _ _ | show CB _ _ _); simp (disch := first | ((with_reducible show isStop _ = false); rfl) | ((with_reducible show isP _ = true); rfl) | ((with_reducible show (isStop _ || isP _) = false); rfl) | assumption | (simp only [GSB, Nat.reduceEqDiff, reduceIte]; done) | omega | (with_reducible decide) | (simp only [DSB, Go.Proofs.YtdfgdpjlbcnkfaaDoorAbs.oneC, Nat.reduceAdd, Nat.reduceLeDiff] <;> omega)) only [↓DN, ↓reduceIte, UP, CGB, Int.reduceEq, Int.reduceLT, Int.reduceLE, Nat.reduceEqDiff, Nat.reduceAdd, Nat.reduceMul, Nat.reduceSub, Int.reduceToNat, Nat.reduceLeDiff, PF, isStop, isP, goInt, beq_self_eq_true, decide_true, decide_false, Int.toNat_natCast, Int.natCast_zero, nn_eq, nn_ne, hs2])
    | ((with_reducible refine CB_intro (fun ht => hcA ?_) (fun ht => hcB ?_)) <;> (first | (simp only [Bool.true_eq_false, Bool.false_eq_true] at ht; done) | ((try simp only [Bool.not_eq_true', Bool.not_eq_false'] at ht); (try simp only [ht]); (try simp only [HTN] at ht); (try (exfalso; omega)))))
    | ((with_reducible refine W_regionI ?_); simp only [List.append_eq, List.cons_append, List.nil_append])
    | (with_reducible refine O_splitG fun cA cB hcA hcB => ?_))
  refine O_accBF (S0 := S1) (a := encB (xs.take j)) (c := encB (xs.drop j)) (by simp only [EVB, Nat.reduceEqDiff, reduceIte]; exact hA5.keep hK6) (by simp only [EVB, Nat.reduceEqDiff, reduceIte]; exact sl_own hO6) (by omega) fun v7 S7 hA7 => ?_
  have hcl : (encB (xs.take j) ++ encB (xs.drop j)).length = (encB (xs.take j)).length + (encB (xs.drop j)).length := List.length_append
  have w2 := whole_chunks (xs.take j) (xs.drop j) [] (by omega)
  have w2o := whole_chunks_over (xs.take j) (xs.drop j) [48, 13, 10, 13, 10] (by omega) (by rw [List.take_append_drop]; exact q1)
  rw [List.take_append_drop] at w2 w2o
  rw [List.append_nil] at w2
  generalize hch : encB (xs.take j) ++ encB (xs.drop j) = ch at *
  refine O_accSF (S0 := S1) (a := ch) (c := [48, 13, 10, 13, 10]) (by simp only [EVB, Nat.reduceEqDiff, reduceIte]; exact hA7) (by simp only [EVB, Nat.reduceEqDiff, reduceIte]) (by simp only [List.length_cons, List.length_nil]; omega) fun v8 S8 hA8 => ?_
  have hA18 := hA1.keep hA8.kept
  have hbs : abuildSlice Tryd.prog S8 46 3 #[(0, .agg #[.int .i64 1, .int .i64 xs.length]), (1, .agg #[.int .i64 2, .int .i64 0]), (2, .agg #[.int .i64 3, .int .i64 0])] = some (.slice (some ⟨S8.next, 0, some 6⟩) 3 3, S8.push ⟨[.int .i64 1, .int .i64 xs.length, .int .i64 2, .int .i64 0, .int .i64 3, .int .i64 0], 28, true, 0⟩) := by kernel_rfl
  repeat' (first
    | (with_reducible first | refine W_pushC fun K hK => ?_ | refine W_blockI ?_ | refine W_scopeI ?_ | refine W_labelI ?_ | refine W_skipI ?_ | refine W_retI ?_ | refine W_exitI ?_ | refine then_normalI ?_ | refine then_retI ?_ | refine then_exitI ?_ | refine inBlock_normalI ?_ | refine inBlock_retI ?_ | refine inBlock_exitI ?_ | refine inBlock_exitN (by decide) ?_)
    | ((with_reducible first | refine bodyQ_normal0 ?_ | refine bodyQ_normal1 ?_ | refine bodyQ_normal2 ?_ | refine bodyQ_normal3 ?_ | refine bodyQ_normal4 ?_ | refine bodyQ_ret0 ?_ | refine bodyQ_ret1 ?_ | refine bodyQ_ret2 ?_ | refine bodyQ_ret3 ?_ | refine bodyQ_ret4 ?_); (try simp only [EVB, Nat.reduceEqDiff, reduceIte]))
    | (with_reducible refine Cont.use (by assumption) ?_)
    | (with_reducible first | refine hcA ?_ | refine hcB ?_)
    | ((with_reducible show W _ _ (.region _ _ true) _ _ _); first | (refine W_drawn (fl := [true, true, true, true, false, false, true, true, true, false, false, false, true]) (by kernel_rfl) ?_))
    | ((with_reducible first | refine W_condG fun cA cB hcA hcB => ?_ | refine W_regionI ?_ | show O _ _ _ _ _ _ _ _ | show OK _ _ _ _ _ _ _ _ _ | show OKF _ _ _ _ _ _ _ _ _ _ | show OKT _ _ _ _ _ _ _ _ _ _ _ _ | show _ ∧ _ | show CG _ _ _ | show CB _ _ _); simp (disch := first | ((with_reducible show isStop _ = false); rfl) | ((with_reducible show isP _ = true); rfl) | ((with_reducible show (isStop _ || isP _) = false); rfl) | assumption | (simp only [GSB, Nat.reduceEqDiff, reduceIte]; done) | omega | (with_reducible decide) | (simp only [DSB, Go.Proofs.YtdfgdpjlbcnkfaaDoorAbs.oneC, Nat.reduceAdd, Nat.reduceLeDiff] <;> omega)) only [↓DN, ↓reduceIte, UP, CGB, Int.reduceEq, Int.reduceLT, Int.reduceLE, Nat.reduceEqDiff, Nat.reduceAdd, Nat.reduceMul, Nat.reduceSub, Int.reduceToNat, Nat.reduceLeDiff, PF, isStop, isP, goInt, beq_self_eq_true, decide_true, decide_false, Int.toNat_natCast, Int.natCast_zero, nn_eq, nn_ne, hbs])
    | ((with_reducible refine CB_intro (fun ht => hcA ?_) (fun ht => hcB ?_)) <;> (first | (simp only [Bool.true_eq_false, Bool.false_eq_true] at ht; done) | ((try simp only [Bool.not_eq_true', Bool.not_eq_false'] at ht); (try simp only [ht]); (try simp only [HTN] at ht); (try (exfalso; omega)))))
    | ((with_reducible refine W_regionI ?_); simp only [List.append_eq, List.cons_append, List.nil_append])
    | (with_reducible refine O_splitG fun cA cB hcA hcB => ?_))
  obtain ⟨S9, hS9⟩ : ∃ S9, S9 = S8.push ⟨[.int .i64 1, .int .i64 xs.length, .int .i64 2, .int .i64 0, .int .i64 3, .int .i64 0], 28, true, 0⟩ := ⟨_, rfl⟩
  rw [← hS9]
  have g9 : S9.get S8.next = some ⟨[.int .i64 1, .int .i64 xs.length, .int .i64 2, .int .i64 0, .int .i64 3, .int .i64 0], 28, true, 0⟩ := by rw [hS9]; exact S8.get_push_self _
  have k9 : Kept S8 S9 none := by rw [hS9]; exact Kept.push _ none
  have n9 : S8.next < S9.next := by rw [hS9]; exact Nat.lt_succ_self _
  have hA1z := hA18.keep k9
  have hA8z := hA8.keep k9
  have kS9 : Kept S S9 none := hA1z.kept
  have hx9 := sl_kept hx kS9 (by simp)
  have z9 : S9.get 0 = some geB := (kS9.2 0 h0n (by simp)).trans h0
  have n0 : 0 < S9.next := by omega
  clear hS9 hbs
  refine W_loop (fun n e S' => ∃ i : Nat, n = 3 - i ∧ i ≤ 3 ∧ e.get 9 = .int .i64 i ∧ e.get 0 = .slice (some ⟨vb, vo, some vL⟩) xs.length (UNK + 1) ∧ e.get 6 = v8 ∧ e.get 7 = v1 ∧ e.get 8 = .slice (some ⟨S8.next, 0, some 6⟩) 3 3 ∧ Kept S9 S' none) 3 ⟨0, rfl, by omega, by simp only [EVB, Nat.reduceEqDiff, reduceIte]; rfl, by simp only [EVB, Nat.reduceEqDiff, reduceIte], by simp only [EVB, Nat.reduceEqDiff, reduceIte], by simp only [EVB, Nat.reduceEqDiff, reduceIte], by simp only [EVB, Nat.reduceEqDiff, reduceIte], Kept.refl _ _⟩ ?_
  rintro n e T ⟨i, rfl, hi, e9, e0, e6, e7, e8, kT⟩
  have gT : T.get S8.next = some ⟨[.int .i64 1, .int .i64 xs.length, .int .i64 2, .int .i64 0, .int .i64 3, .int .i64 0], 28, true, 0⟩ := (kT.2 _ n9 (by simp)).trans g9
  have hB1 := hA1z.keep kT
  have hB8 := hA8z.keep kT
  have w6 : IntKind.i64.wrap ((xs.length : Int) - 1) = (xs.length : Int) - 1 := Go.Proofs.YtdfgdpjlbcnkfaaDoorAbs.wp64 (by omega) (by omega)
  have hs : ((⟨xs.toArray⟩ : ByteArray).toList == (⟨xs.toArray⟩ : ByteArray).toList) = true := beq_self_eq_true _
  have hbad : ∀ (S' : St) (Q' : Value → St → Prop), Kept S9 S' none → Q' (.int .i64 33) S' → C Tryd.prog I 22 #[.iface 58 (.int .i64 33)] S' Q' := fun S' Q' k hq => h.num13 S' (some 33) Q' ((k.2 0 n0 (by simp)).trans z9) hq
  have hidx : i = 0 ∨ i = 1 ∨ i = 2 ∨ i = 3 := by omega
  rcases hidx with rfl | rfl | rfl | rfl
  · have e9' : e.get 9 = .int .i64 0 := e9
    repeat' (first
    | (with_reducible first | refine W_pushC fun K hK => ?_ | refine W_blockI ?_ | refine W_scopeI ?_ | refine W_labelI ?_ | refine W_skipI ?_ | refine W_retI ?_ | refine W_exitI ?_ | refine then_normalI ?_ | refine then_retI ?_ | refine then_exitI ?_ | refine inBlock_normalI ?_ | refine inBlock_retI ?_ | refine inBlock_exitI ?_ | refine inBlock_exitN (by decide) ?_)
    | ((with_reducible first | refine bodyQ_normal0 ?_ | refine bodyQ_normal1 ?_ | refine bodyQ_normal2 ?_ | refine bodyQ_normal3 ?_ | refine bodyQ_normal4 ?_ | refine bodyQ_ret0 ?_ | refine bodyQ_ret1 ?_ | refine bodyQ_ret2 ?_ | refine bodyQ_ret3 ?_ | refine bodyQ_ret4 ?_); (try simp only [EVB, Nat.reduceEqDiff, reduceIte]))
    | ((with_reducible show C _ _ _ _ _ _); first | (refine whole_ok h hB1 (by omega) (by omega) (whole_length' xs (by omega) q1) (fun x T1 hX => ?_)))
    | (with_reducible refine Cont.use (by assumption) ?_)
    | (with_reducible first | refine hcA ?_ | refine hcB ?_)
    | ((with_reducible show W _ _ (.region _ _ true) _ _ _); first | (refine W_drawn (fl := [true, true, true, true, false, false, true, true, true, false, false, false, true]) (by kernel_rfl) ?_))
    | ((with_reducible first | refine W_condG fun cA cB hcA hcB => ?_ | refine W_regionI ?_ | show O _ _ _ _ _ _ _ _ | show OK _ _ _ _ _ _ _ _ _ | show OKF _ _ _ _ _ _ _ _ _ _ | show OKT _ _ _ _ _ _ _ _ _ _ _ _ | show _ ∧ _ | show CG _ _ _ | show CB _ _ _); simp (disch := first | ((with_reducible show isStop _ = false); rfl) | ((with_reducible show isP _ = true); rfl) | ((with_reducible show (isStop _ || isP _) = false); rfl) | assumption | (simp only [GSB, Nat.reduceEqDiff, reduceIte]; done) | omega | (with_reducible decide) | (simp only [DSB, Go.Proofs.YtdfgdpjlbcnkfaaDoorAbs.oneC, Nat.reduceAdd, Nat.reduceLeDiff] <;> omega)) only [↓DN, ↓reduceIte, UP, CGB, Int.reduceEq, Int.reduceLT, Int.reduceLE, Nat.reduceEqDiff, Nat.reduceAdd, Nat.reduceMul, Nat.reduceSub, Int.reduceToNat, Nat.reduceLeDiff, PF, isStop, isP, goInt, beq_self_eq_true, decide_true, decide_false, Int.toNat_natCast, Int.natCast_zero, nn_eq, nn_ne, e9', e0, e6, e7, e8, gT, w6])
    | ((with_reducible refine CB_intro (fun ht => hcA ?_) (fun ht => hcB ?_)) <;> (first | (simp only [Bool.true_eq_false, Bool.false_eq_true] at ht; done) | ((try simp only [Bool.not_eq_true', Bool.not_eq_false'] at ht); (try simp only [ht]); (try simp only [HTN] at ht); (try (exfalso; omega)))))
    | ((with_reducible refine W_regionI ?_); simp only [List.append_eq, List.cons_append, List.nil_append])
    | (with_reducible refine O_splitG fun cA cB hcA hcB => ?_))
    have gT1 : T1.get S8.next = some ⟨[.int .i64 1, .int .i64 xs.length, .int .i64 2, .int .i64 0, .int .i64 3, .int .i64 0], 28, true, 0⟩ := (hX.kept.2 _ (Nat.lt_of_lt_of_le n9 kT.1) (by simp)).trans gT
    have hfin : ∀ {Q' : Value → St → Prop}, (∀ T2, (alt (aconvert Tryd.prog T2 22 9 x) (lift T2 (cvX Tryd.prog 22 9 x)) = some (.string ⟨xs.toArray⟩, T2)) → (alt (aconvert Tryd.prog T2 22 9 (.slice (some ⟨vb, vo, some vL⟩) xs.length (UNK + 1))) (lift T2 (cvX Tryd.prog 22 9 (.slice (some ⟨vb, vo, some vL⟩) xs.length (UNK + 1)))) = some (.string ⟨xs.toArray⟩, T2)) → Kept S9 T2 none → Q' (.tuple #[.slice none 0 0, .int .i64 0, .iface 58 (.int .i64 33)]) T2) → C Tryd.prog I 9 #[.agg #[.int .i64 1, .int .i64 xs.length], .int .i64 ((xs.length : Int) - 1), v1] T1 Q' := fun hq => by
      refine whole_bad h (hB1.keep hX.kept) (by omega) (by omega) (whole_length_over xs (by omega) q1) (fun T2 kk => ?_)
      exact hq T2 (conv_any (hX.own.kept kk (.inl rfl))) (conv_sl (sl_kept hx9 (kT.trans (hX.kept.trans kk)) (by simp)) (.inr ⟨_, _, _, rfl⟩)) (kT.trans (hX.kept.trans kk))
    repeat' (first
    | (with_reducible first | refine W_pushC fun K hK => ?_ | refine W_blockI ?_ | refine W_scopeI ?_ | refine W_labelI ?_ | refine W_skipI ?_ | refine W_retI ?_ | refine W_exitI ?_ | refine then_normalI ?_ | refine then_retI ?_ | refine then_exitI ?_ | refine inBlock_normalI ?_ | refine inBlock_retI ?_ | refine inBlock_exitI ?_ | refine inBlock_exitN (by decide) ?_)
    | ((with_reducible first | refine bodyQ_normal0 ?_ | refine bodyQ_normal1 ?_ | refine bodyQ_normal2 ?_ | refine bodyQ_normal3 ?_ | refine bodyQ_normal4 ?_ | refine bodyQ_ret0 ?_ | refine bodyQ_ret1 ?_ | refine bodyQ_ret2 ?_ | refine bodyQ_ret3 ?_ | refine bodyQ_ret4 ?_); (try simp only [EVB, Nat.reduceEqDiff, reduceIte]))
    | ((with_reducible show C _ _ _ _ _ _); first | (refine hfin (fun T2 c1 c2 kT2 => ?_)))
    | (with_reducible refine Cont.use (by assumption) ?_)
    | (with_reducible first | refine hcA ?_ | refine hcB ?_)
    | ((with_reducible show W _ _ (.region _ _ true) _ _ _); first | (refine W_drawn (fl := [true, true, true, true, false, false, true, true, true, false, false, false, true]) (by kernel_rfl) ?_))
    | ((with_reducible first | refine W_condG fun cA cB hcA hcB => ?_ | refine W_regionI ?_ | show O _ _ _ _ _ _ _ _ | show OK _ _ _ _ _ _ _ _ _ | show OKF _ _ _ _ _ _ _ _ _ _ | show OKT _ _ _ _ _ _ _ _ _ _ _ _ | show _ ∧ _ | show CG _ _ _ | show CB _ _ _); simp (disch := first | ((with_reducible show isStop _ = false); rfl) | ((with_reducible show isP _ = true); rfl) | ((with_reducible show (isStop _ || isP _) = false); rfl) | assumption | (simp only [GSB, Nat.reduceEqDiff, reduceIte]; done) | omega | (with_reducible decide) | (simp only [DSB, Go.Proofs.YtdfgdpjlbcnkfaaDoorAbs.oneC, Nat.reduceAdd, Nat.reduceLeDiff] <;> omega)) only [↓DN, ↓reduceIte, UP, CGB, Int.reduceEq, Int.reduceLT, Int.reduceLE, Nat.reduceEqDiff, Nat.reduceAdd, Nat.reduceMul, Nat.reduceSub, Int.reduceToNat, Nat.reduceLeDiff, PF, isStop, isP, goInt, beq_self_eq_true, decide_true, decide_false, Int.toNat_natCast, Int.natCast_zero, nn_eq, nn_ne, e9', e0, e6, e7, e8, gT1, w6])
    | ((with_reducible refine CB_intro (fun ht => hcA ?_) (fun ht => hcB ?_)) <;> (first | (simp only [Bool.true_eq_false, Bool.false_eq_true] at ht; done) | ((try simp only [Bool.not_eq_true', Bool.not_eq_false'] at ht); (try simp only [ht]); (try simp only [HTN] at ht); (try (exfalso; omega)))))
    | ((with_reducible refine W_regionI ?_); simp only [List.append_eq, List.cons_append, List.nil_append])
    | (with_reducible refine O_splitG fun cA cB hcA hcB => ?_))
    repeat' (first
    | (with_reducible first | refine W_pushC fun K hK => ?_ | refine W_blockI ?_ | refine W_scopeI ?_ | refine W_labelI ?_ | refine W_skipI ?_ | refine W_retI ?_ | refine W_exitI ?_ | refine then_normalI ?_ | refine then_retI ?_ | refine then_exitI ?_ | refine inBlock_normalI ?_ | refine inBlock_retI ?_ | refine inBlock_exitI ?_ | refine inBlock_exitN (by decide) ?_)
    | ((with_reducible first | refine bodyQ_normal0 ?_ | refine bodyQ_normal1 ?_ | refine bodyQ_normal2 ?_ | refine bodyQ_normal3 ?_ | refine bodyQ_normal4 ?_ | refine bodyQ_ret0 ?_ | refine bodyQ_ret1 ?_ | refine bodyQ_ret2 ?_ | refine bodyQ_ret3 ?_ | refine bodyQ_ret4 ?_); (try simp only [EVB, Nat.reduceEqDiff, reduceIte]))
    | ((with_reducible show C _ _ _ _ _ _); first | (refine hbad _ _ kT2 ?_))
    | (with_reducible refine Cont.use (by assumption) ?_)
    | (with_reducible first | refine hcA ?_ | refine hcB ?_)
    | ((with_reducible show W _ _ (.region _ _ true) _ _ _); first | (refine W_drawn (fl := [true, true, true, true, false, false, true, true, true, false, false, false, true]) (by kernel_rfl) ?_))
    | ((with_reducible first | refine W_condG fun cA cB hcA hcB => ?_ | refine W_regionI ?_ | show O _ _ _ _ _ _ _ _ | show OK _ _ _ _ _ _ _ _ _ | show OKF _ _ _ _ _ _ _ _ _ _ | show OKT _ _ _ _ _ _ _ _ _ _ _ _ | show _ ∧ _ | show CG _ _ _ | show CB _ _ _); simp (disch := first | ((with_reducible show isStop _ = false); rfl) | ((with_reducible show isP _ = true); rfl) | ((with_reducible show (isStop _ || isP _) = false); rfl) | assumption | (simp only [GSB, Nat.reduceEqDiff, reduceIte]; done) | omega | (with_reducible decide) | (simp only [DSB, Go.Proofs.YtdfgdpjlbcnkfaaDoorAbs.oneC, Nat.reduceAdd, Nat.reduceLeDiff] <;> omega)) only [↓DN, ↓reduceIte, UP, CGB, Int.reduceEq, Int.reduceLT, Int.reduceLE, Nat.reduceEqDiff, Nat.reduceAdd, Nat.reduceMul, Nat.reduceSub, Int.reduceToNat, Nat.reduceLeDiff, PF, isStop, isP, goInt, beq_self_eq_true, decide_true, decide_false, Int.toNat_natCast, Int.natCast_zero, nn_eq, nn_ne, e9', e0, e6, e7, e8, c1, c2, hs])
    | ((with_reducible refine CB_intro (fun ht => hcA ?_) (fun ht => hcB ?_)) <;> (first | (simp only [Bool.true_eq_false, Bool.false_eq_true] at ht; done) | ((try simp only [Bool.not_eq_true', Bool.not_eq_false'] at ht); (try simp only [ht]); (try simp only [HTN] at ht); (try (exfalso; omega)))))
    | ((with_reducible refine W_regionI ?_); simp only [List.append_eq, List.cons_append, List.nil_append])
    | (with_reducible refine O_splitG fun cA cB hcA hcB => ?_)
    | ((refine ⟨3 - 1, by omega, 1, rfl, by omega, by simp only [EVB, Nat.reduceEqDiff, reduceIte]; rfl, by simp only [EVB, Nat.reduceEqDiff, reduceIte, e0], by simp only [EVB, Nat.reduceEqDiff, reduceIte, e6], by simp only [EVB, Nat.reduceEqDiff, reduceIte, e7], by simp only [EVB, Nat.reduceEqDiff, reduceIte, e8], kT2⟩)))
  · have e9' : e.get 9 = .int .i64 1 := e9
    repeat' (first
    | (with_reducible first | refine W_pushC fun K hK => ?_ | refine W_blockI ?_ | refine W_scopeI ?_ | refine W_labelI ?_ | refine W_skipI ?_ | refine W_retI ?_ | refine W_exitI ?_ | refine then_normalI ?_ | refine then_retI ?_ | refine then_exitI ?_ | refine inBlock_normalI ?_ | refine inBlock_retI ?_ | refine inBlock_exitI ?_ | refine inBlock_exitN (by decide) ?_)
    | ((with_reducible first | refine bodyQ_normal0 ?_ | refine bodyQ_normal1 ?_ | refine bodyQ_normal2 ?_ | refine bodyQ_normal3 ?_ | refine bodyQ_normal4 ?_ | refine bodyQ_ret0 ?_ | refine bodyQ_ret1 ?_ | refine bodyQ_ret2 ?_ | refine bodyQ_ret3 ?_ | refine bodyQ_ret4 ?_); (try simp only [EVB, Nat.reduceEqDiff, reduceIte]))
    | ((with_reducible show C _ _ _ _ _ _); first | (refine whole_ok h hB8 (by rw [List.length_append]; simp; omega) (by omega) (w2) (fun x T1 hX => ?_)))
    | (with_reducible refine Cont.use (by assumption) ?_)
    | (with_reducible first | refine hcA ?_ | refine hcB ?_)
    | ((with_reducible show W _ _ (.region _ _ true) _ _ _); first | (refine W_drawn (fl := [true, true, true, true, false, false, true, true, true, false, false, false, true]) (by kernel_rfl) ?_))
    | ((with_reducible first | refine W_condG fun cA cB hcA hcB => ?_ | refine W_regionI ?_ | show O _ _ _ _ _ _ _ _ | show OK _ _ _ _ _ _ _ _ _ | show OKF _ _ _ _ _ _ _ _ _ _ | show OKT _ _ _ _ _ _ _ _ _ _ _ _ | show _ ∧ _ | show CG _ _ _ | show CB _ _ _); simp (disch := first | ((with_reducible show isStop _ = false); rfl) | ((with_reducible show isP _ = true); rfl) | ((with_reducible show (isStop _ || isP _) = false); rfl) | assumption | (simp only [GSB, Nat.reduceEqDiff, reduceIte]; done) | omega | (with_reducible decide) | (simp only [DSB, Go.Proofs.YtdfgdpjlbcnkfaaDoorAbs.oneC, Nat.reduceAdd, Nat.reduceLeDiff] <;> omega)) only [↓DN, ↓reduceIte, UP, CGB, Int.reduceEq, Int.reduceLT, Int.reduceLE, Nat.reduceEqDiff, Nat.reduceAdd, Nat.reduceMul, Nat.reduceSub, Int.reduceToNat, Nat.reduceLeDiff, PF, isStop, isP, goInt, beq_self_eq_true, decide_true, decide_false, Int.toNat_natCast, Int.natCast_zero, nn_eq, nn_ne, e9', e0, e6, e7, e8, gT, w6])
    | ((with_reducible refine CB_intro (fun ht => hcA ?_) (fun ht => hcB ?_)) <;> (first | (simp only [Bool.true_eq_false, Bool.false_eq_true] at ht; done) | ((try simp only [Bool.not_eq_true', Bool.not_eq_false'] at ht); (try simp only [ht]); (try simp only [HTN] at ht); (try (exfalso; omega)))))
    | ((with_reducible refine W_regionI ?_); simp only [List.append_eq, List.cons_append, List.nil_append])
    | (with_reducible refine O_splitG fun cA cB hcA hcB => ?_))
    have gT1 : T1.get S8.next = some ⟨[.int .i64 1, .int .i64 xs.length, .int .i64 2, .int .i64 0, .int .i64 3, .int .i64 0], 28, true, 0⟩ := (hX.kept.2 _ (Nat.lt_of_lt_of_le n9 kT.1) (by simp)).trans gT
    have hfin : ∀ {Q' : Value → St → Prop}, (∀ T2, (alt (aconvert Tryd.prog T2 22 9 x) (lift T2 (cvX Tryd.prog 22 9 x)) = some (.string ⟨xs.toArray⟩, T2)) → (alt (aconvert Tryd.prog T2 22 9 (.slice (some ⟨vb, vo, some vL⟩) xs.length (UNK + 1))) (lift T2 (cvX Tryd.prog 22 9 (.slice (some ⟨vb, vo, some vL⟩) xs.length (UNK + 1)))) = some (.string ⟨xs.toArray⟩, T2)) → Kept S9 T2 none → Q' (.tuple #[.slice none 0 0, .int .i64 0, .iface 58 (.int .i64 33)]) T2) → C Tryd.prog I 9 #[.agg #[.int .i64 2, .int .i64 0], .int .i64 ((xs.length : Int) - 1), v8] T1 Q' := fun hq => by
      refine whole_bad h (hB8.keep hX.kept) (by rw [List.length_append]; simp; omega) (by omega) (w2o) (fun T2 kk => ?_)
      exact hq T2 (conv_any (hX.own.kept kk (.inl rfl))) (conv_sl (sl_kept hx9 (kT.trans (hX.kept.trans kk)) (by simp)) (.inr ⟨_, _, _, rfl⟩)) (kT.trans (hX.kept.trans kk))
    repeat' (first
    | (with_reducible first | refine W_pushC fun K hK => ?_ | refine W_blockI ?_ | refine W_scopeI ?_ | refine W_labelI ?_ | refine W_skipI ?_ | refine W_retI ?_ | refine W_exitI ?_ | refine then_normalI ?_ | refine then_retI ?_ | refine then_exitI ?_ | refine inBlock_normalI ?_ | refine inBlock_retI ?_ | refine inBlock_exitI ?_ | refine inBlock_exitN (by decide) ?_)
    | ((with_reducible first | refine bodyQ_normal0 ?_ | refine bodyQ_normal1 ?_ | refine bodyQ_normal2 ?_ | refine bodyQ_normal3 ?_ | refine bodyQ_normal4 ?_ | refine bodyQ_ret0 ?_ | refine bodyQ_ret1 ?_ | refine bodyQ_ret2 ?_ | refine bodyQ_ret3 ?_ | refine bodyQ_ret4 ?_); (try simp only [EVB, Nat.reduceEqDiff, reduceIte]))
    | ((with_reducible show C _ _ _ _ _ _); first | (refine hfin (fun T2 c1 c2 kT2 => ?_)))
    | (with_reducible refine Cont.use (by assumption) ?_)
    | (with_reducible first | refine hcA ?_ | refine hcB ?_)
    | ((with_reducible show W _ _ (.region _ _ true) _ _ _); first | (refine W_drawn (fl := [true, true, true, true, false, false, true, true, true, false, false, false, true]) (by kernel_rfl) ?_))
    | ((with_reducible first | refine W_condG fun cA cB hcA hcB => ?_ | refine W_regionI ?_ | show O _ _ _ _ _ _ _ _ | show OK _ _ _ _ _ _ _ _ _ | show OKF _ _ _ _ _ _ _ _ _ _ | show OKT _ _ _ _ _ _ _ _ _ _ _ _ | show _ ∧ _ | show CG _ _ _ | show CB _ _ _); simp (disch := first | ((with_reducible show isStop _ = false); rfl) | ((with_reducible show isP _ = true); rfl) | ((with_reducible show (isStop _ || isP _) = false); rfl) | assumption | (simp only [GSB, Nat.reduceEqDiff, reduceIte]; done) | omega | (with_reducible decide) | (simp only [DSB, Go.Proofs.YtdfgdpjlbcnkfaaDoorAbs.oneC, Nat.reduceAdd, Nat.reduceLeDiff] <;> omega)) only [↓DN, ↓reduceIte, UP, CGB, Int.reduceEq, Int.reduceLT, Int.reduceLE, Nat.reduceEqDiff, Nat.reduceAdd, Nat.reduceMul, Nat.reduceSub, Int.reduceToNat, Nat.reduceLeDiff, PF, isStop, isP, goInt, beq_self_eq_true, decide_true, decide_false, Int.toNat_natCast, Int.natCast_zero, nn_eq, nn_ne, e9', e0, e6, e7, e8, gT1, w6])
    | ((with_reducible refine CB_intro (fun ht => hcA ?_) (fun ht => hcB ?_)) <;> (first | (simp only [Bool.true_eq_false, Bool.false_eq_true] at ht; done) | ((try simp only [Bool.not_eq_true', Bool.not_eq_false'] at ht); (try simp only [ht]); (try simp only [HTN] at ht); (try (exfalso; omega)))))
    | ((with_reducible refine W_regionI ?_); simp only [List.append_eq, List.cons_append, List.nil_append])
    | (with_reducible refine O_splitG fun cA cB hcA hcB => ?_))
    repeat' (first
    | (with_reducible first | refine W_pushC fun K hK => ?_ | refine W_blockI ?_ | refine W_scopeI ?_ | refine W_labelI ?_ | refine W_skipI ?_ | refine W_retI ?_ | refine W_exitI ?_ | refine then_normalI ?_ | refine then_retI ?_ | refine then_exitI ?_ | refine inBlock_normalI ?_ | refine inBlock_retI ?_ | refine inBlock_exitI ?_ | refine inBlock_exitN (by decide) ?_)
    | ((with_reducible first | refine bodyQ_normal0 ?_ | refine bodyQ_normal1 ?_ | refine bodyQ_normal2 ?_ | refine bodyQ_normal3 ?_ | refine bodyQ_normal4 ?_ | refine bodyQ_ret0 ?_ | refine bodyQ_ret1 ?_ | refine bodyQ_ret2 ?_ | refine bodyQ_ret3 ?_ | refine bodyQ_ret4 ?_); (try simp only [EVB, Nat.reduceEqDiff, reduceIte]))
    | ((with_reducible show C _ _ _ _ _ _); first | (refine hbad _ _ kT2 ?_))
    | (with_reducible refine Cont.use (by assumption) ?_)
    | (with_reducible first | refine hcA ?_ | refine hcB ?_)
    | ((with_reducible show W _ _ (.region _ _ true) _ _ _); first | (refine W_drawn (fl := [true, true, true, true, false, false, true, true, true, false, false, false, true]) (by kernel_rfl) ?_))
    | ((with_reducible first | refine W_condG fun cA cB hcA hcB => ?_ | refine W_regionI ?_ | show O _ _ _ _ _ _ _ _ | show OK _ _ _ _ _ _ _ _ _ | show OKF _ _ _ _ _ _ _ _ _ _ | show OKT _ _ _ _ _ _ _ _ _ _ _ _ | show _ ∧ _ | show CG _ _ _ | show CB _ _ _); simp (disch := first | ((with_reducible show isStop _ = false); rfl) | ((with_reducible show isP _ = true); rfl) | ((with_reducible show (isStop _ || isP _) = false); rfl) | assumption | (simp only [GSB, Nat.reduceEqDiff, reduceIte]; done) | omega | (with_reducible decide) | (simp only [DSB, Go.Proofs.YtdfgdpjlbcnkfaaDoorAbs.oneC, Nat.reduceAdd, Nat.reduceLeDiff] <;> omega)) only [↓DN, ↓reduceIte, UP, CGB, Int.reduceEq, Int.reduceLT, Int.reduceLE, Nat.reduceEqDiff, Nat.reduceAdd, Nat.reduceMul, Nat.reduceSub, Int.reduceToNat, Nat.reduceLeDiff, PF, isStop, isP, goInt, beq_self_eq_true, decide_true, decide_false, Int.toNat_natCast, Int.natCast_zero, nn_eq, nn_ne, e9', e0, e6, e7, e8, c1, c2, hs])
    | ((with_reducible refine CB_intro (fun ht => hcA ?_) (fun ht => hcB ?_)) <;> (first | (simp only [Bool.true_eq_false, Bool.false_eq_true] at ht; done) | ((try simp only [Bool.not_eq_true', Bool.not_eq_false'] at ht); (try simp only [ht]); (try simp only [HTN] at ht); (try (exfalso; omega)))))
    | ((with_reducible refine W_regionI ?_); simp only [List.append_eq, List.cons_append, List.nil_append])
    | (with_reducible refine O_splitG fun cA cB hcA hcB => ?_)
    | ((refine ⟨3 - 2, by omega, 2, rfl, by omega, by simp only [EVB, Nat.reduceEqDiff, reduceIte]; rfl, by simp only [EVB, Nat.reduceEqDiff, reduceIte, e0], by simp only [EVB, Nat.reduceEqDiff, reduceIte, e6], by simp only [EVB, Nat.reduceEqDiff, reduceIte, e7], by simp only [EVB, Nat.reduceEqDiff, reduceIte, e8], kT2⟩)))
  · have e9' : e.get 9 = .int .i64 2 := e9
    repeat' (first
    | (with_reducible first | refine W_pushC fun K hK => ?_ | refine W_blockI ?_ | refine W_scopeI ?_ | refine W_labelI ?_ | refine W_skipI ?_ | refine W_retI ?_ | refine W_exitI ?_ | refine then_normalI ?_ | refine then_retI ?_ | refine then_exitI ?_ | refine inBlock_normalI ?_ | refine inBlock_retI ?_ | refine inBlock_exitI ?_ | refine inBlock_exitN (by decide) ?_)
    | ((with_reducible first | refine bodyQ_normal0 ?_ | refine bodyQ_normal1 ?_ | refine bodyQ_normal2 ?_ | refine bodyQ_normal3 ?_ | refine bodyQ_normal4 ?_ | refine bodyQ_ret0 ?_ | refine bodyQ_ret1 ?_ | refine bodyQ_ret2 ?_ | refine bodyQ_ret3 ?_ | refine bodyQ_ret4 ?_); (try simp only [EVB, Nat.reduceEqDiff, reduceIte]))
    | ((with_reducible show C _ _ _ _ _ _); first | (refine whole_ok h hB1 (by omega) (by omega) (whole_close xs (by omega)) (fun x T1 hX => ?_)))
    | (with_reducible refine Cont.use (by assumption) ?_)
    | (with_reducible first | refine hcA ?_ | refine hcB ?_)
    | ((with_reducible show W _ _ (.region _ _ true) _ _ _); first | (refine W_drawn (fl := [true, true, true, true, false, false, true, true, true, false, false, false, true]) (by kernel_rfl) ?_))
    | ((with_reducible first | refine W_condG fun cA cB hcA hcB => ?_ | refine W_regionI ?_ | show O _ _ _ _ _ _ _ _ | show OK _ _ _ _ _ _ _ _ _ | show OKF _ _ _ _ _ _ _ _ _ _ | show OKT _ _ _ _ _ _ _ _ _ _ _ _ | show _ ∧ _ | show CG _ _ _ | show CB _ _ _); simp (disch := first | ((with_reducible show isStop _ = false); rfl) | ((with_reducible show isP _ = true); rfl) | ((with_reducible show (isStop _ || isP _) = false); rfl) | assumption | (simp only [GSB, Nat.reduceEqDiff, reduceIte]; done) | omega | (with_reducible decide) | (simp only [DSB, Go.Proofs.YtdfgdpjlbcnkfaaDoorAbs.oneC, Nat.reduceAdd, Nat.reduceLeDiff] <;> omega)) only [↓DN, ↓reduceIte, UP, CGB, Int.reduceEq, Int.reduceLT, Int.reduceLE, Nat.reduceEqDiff, Nat.reduceAdd, Nat.reduceMul, Nat.reduceSub, Int.reduceToNat, Nat.reduceLeDiff, PF, isStop, isP, goInt, beq_self_eq_true, decide_true, decide_false, Int.toNat_natCast, Int.natCast_zero, nn_eq, nn_ne, e9', e0, e6, e7, e8, gT, w6])
    | ((with_reducible refine CB_intro (fun ht => hcA ?_) (fun ht => hcB ?_)) <;> (first | (simp only [Bool.true_eq_false, Bool.false_eq_true] at ht; done) | ((try simp only [Bool.not_eq_true', Bool.not_eq_false'] at ht); (try simp only [ht]); (try simp only [HTN] at ht); (try (exfalso; omega)))))
    | ((with_reducible refine W_regionI ?_); simp only [List.append_eq, List.cons_append, List.nil_append])
    | (with_reducible refine O_splitG fun cA cB hcA hcB => ?_))
    have gT1 : T1.get S8.next = some ⟨[.int .i64 1, .int .i64 xs.length, .int .i64 2, .int .i64 0, .int .i64 3, .int .i64 0], 28, true, 0⟩ := (hX.kept.2 _ (Nat.lt_of_lt_of_le n9 kT.1) (by simp)).trans gT
    have hfin : ∀ {Q' : Value → St → Prop}, (∀ T2, (alt (aconvert Tryd.prog T2 22 9 x) (lift T2 (cvX Tryd.prog 22 9 x)) = some (.string ⟨xs.toArray⟩, T2)) → (alt (aconvert Tryd.prog T2 22 9 (.slice (some ⟨vb, vo, some vL⟩) xs.length (UNK + 1))) (lift T2 (cvX Tryd.prog 22 9 (.slice (some ⟨vb, vo, some vL⟩) xs.length (UNK + 1)))) = some (.string ⟨xs.toArray⟩, T2)) → Kept S9 T2 none → Q' (.tuple #[.slice none 0 0, .int .i64 0, .iface 58 (.int .i64 33)]) T2) → C Tryd.prog I 9 #[.agg #[.int .i64 3, .int .i64 0], .int .i64 ((xs.length : Int) - 1), v1] T1 Q' := fun hq => by
      refine whole_bad h (hB1.keep hX.kept) (by omega) (by omega) (whole_close_over xs (by omega) q1) (fun T2 kk => ?_)
      exact hq T2 (conv_any (hX.own.kept kk (.inl rfl))) (conv_sl (sl_kept hx9 (kT.trans (hX.kept.trans kk)) (by simp)) (.inr ⟨_, _, _, rfl⟩)) (kT.trans (hX.kept.trans kk))
    repeat' (first
    | (with_reducible first | refine W_pushC fun K hK => ?_ | refine W_blockI ?_ | refine W_scopeI ?_ | refine W_labelI ?_ | refine W_skipI ?_ | refine W_retI ?_ | refine W_exitI ?_ | refine then_normalI ?_ | refine then_retI ?_ | refine then_exitI ?_ | refine inBlock_normalI ?_ | refine inBlock_retI ?_ | refine inBlock_exitI ?_ | refine inBlock_exitN (by decide) ?_)
    | ((with_reducible first | refine bodyQ_normal0 ?_ | refine bodyQ_normal1 ?_ | refine bodyQ_normal2 ?_ | refine bodyQ_normal3 ?_ | refine bodyQ_normal4 ?_ | refine bodyQ_ret0 ?_ | refine bodyQ_ret1 ?_ | refine bodyQ_ret2 ?_ | refine bodyQ_ret3 ?_ | refine bodyQ_ret4 ?_); (try simp only [EVB, Nat.reduceEqDiff, reduceIte]))
    | ((with_reducible show C _ _ _ _ _ _); first | (refine hfin (fun T2 c1 c2 kT2 => ?_)))
    | (with_reducible refine Cont.use (by assumption) ?_)
    | (with_reducible first | refine hcA ?_ | refine hcB ?_)
    | ((with_reducible show W _ _ (.region _ _ true) _ _ _); first | (refine W_drawn (fl := [true, true, true, true, false, false, true, true, true, false, false, false, true]) (by kernel_rfl) ?_))
    | ((with_reducible first | refine W_condG fun cA cB hcA hcB => ?_ | refine W_regionI ?_ | show O _ _ _ _ _ _ _ _ | show OK _ _ _ _ _ _ _ _ _ | show OKF _ _ _ _ _ _ _ _ _ _ | show OKT _ _ _ _ _ _ _ _ _ _ _ _ | show _ ∧ _ | show CG _ _ _ | show CB _ _ _); simp (disch := first | ((with_reducible show isStop _ = false); rfl) | ((with_reducible show isP _ = true); rfl) | ((with_reducible show (isStop _ || isP _) = false); rfl) | assumption | (simp only [GSB, Nat.reduceEqDiff, reduceIte]; done) | omega | (with_reducible decide) | (simp only [DSB, Go.Proofs.YtdfgdpjlbcnkfaaDoorAbs.oneC, Nat.reduceAdd, Nat.reduceLeDiff] <;> omega)) only [↓DN, ↓reduceIte, UP, CGB, Int.reduceEq, Int.reduceLT, Int.reduceLE, Nat.reduceEqDiff, Nat.reduceAdd, Nat.reduceMul, Nat.reduceSub, Int.reduceToNat, Nat.reduceLeDiff, PF, isStop, isP, goInt, beq_self_eq_true, decide_true, decide_false, Int.toNat_natCast, Int.natCast_zero, nn_eq, nn_ne, e9', e0, e6, e7, e8, gT1, w6])
    | ((with_reducible refine CB_intro (fun ht => hcA ?_) (fun ht => hcB ?_)) <;> (first | (simp only [Bool.true_eq_false, Bool.false_eq_true] at ht; done) | ((try simp only [Bool.not_eq_true', Bool.not_eq_false'] at ht); (try simp only [ht]); (try simp only [HTN] at ht); (try (exfalso; omega)))))
    | ((with_reducible refine W_regionI ?_); simp only [List.append_eq, List.cons_append, List.nil_append])
    | (with_reducible refine O_splitG fun cA cB hcA hcB => ?_))
    repeat' (first
    | (with_reducible first | refine W_pushC fun K hK => ?_ | refine W_blockI ?_ | refine W_scopeI ?_ | refine W_labelI ?_ | refine W_skipI ?_ | refine W_retI ?_ | refine W_exitI ?_ | refine then_normalI ?_ | refine then_retI ?_ | refine then_exitI ?_ | refine inBlock_normalI ?_ | refine inBlock_retI ?_ | refine inBlock_exitI ?_ | refine inBlock_exitN (by decide) ?_)
    | ((with_reducible first | refine bodyQ_normal0 ?_ | refine bodyQ_normal1 ?_ | refine bodyQ_normal2 ?_ | refine bodyQ_normal3 ?_ | refine bodyQ_normal4 ?_ | refine bodyQ_ret0 ?_ | refine bodyQ_ret1 ?_ | refine bodyQ_ret2 ?_ | refine bodyQ_ret3 ?_ | refine bodyQ_ret4 ?_); (try simp only [EVB, Nat.reduceEqDiff, reduceIte]))
    | ((with_reducible show C _ _ _ _ _ _); first | (refine hbad _ _ kT2 ?_))
    | (with_reducible refine Cont.use (by assumption) ?_)
    | (with_reducible first | refine hcA ?_ | refine hcB ?_)
    | ((with_reducible show W _ _ (.region _ _ true) _ _ _); first | (refine W_drawn (fl := [true, true, true, true, false, false, true, true, true, false, false, false, true]) (by kernel_rfl) ?_))
    | ((with_reducible first | refine W_condG fun cA cB hcA hcB => ?_ | refine W_regionI ?_ | show O _ _ _ _ _ _ _ _ | show OK _ _ _ _ _ _ _ _ _ | show OKF _ _ _ _ _ _ _ _ _ _ | show OKT _ _ _ _ _ _ _ _ _ _ _ _ | show _ ∧ _ | show CG _ _ _ | show CB _ _ _); simp (disch := first | ((with_reducible show isStop _ = false); rfl) | ((with_reducible show isP _ = true); rfl) | ((with_reducible show (isStop _ || isP _) = false); rfl) | assumption | (simp only [GSB, Nat.reduceEqDiff, reduceIte]; done) | omega | (with_reducible decide) | (simp only [DSB, Go.Proofs.YtdfgdpjlbcnkfaaDoorAbs.oneC, Nat.reduceAdd, Nat.reduceLeDiff] <;> omega)) only [↓DN, ↓reduceIte, UP, CGB, Int.reduceEq, Int.reduceLT, Int.reduceLE, Nat.reduceEqDiff, Nat.reduceAdd, Nat.reduceMul, Nat.reduceSub, Int.reduceToNat, Nat.reduceLeDiff, PF, isStop, isP, goInt, beq_self_eq_true, decide_true, decide_false, Int.toNat_natCast, Int.natCast_zero, nn_eq, nn_ne, e9', e0, e6, e7, e8, c1, c2, hs])
    | ((with_reducible refine CB_intro (fun ht => hcA ?_) (fun ht => hcB ?_)) <;> (first | (simp only [Bool.true_eq_false, Bool.false_eq_true] at ht; done) | ((try simp only [Bool.not_eq_true', Bool.not_eq_false'] at ht); (try simp only [ht]); (try simp only [HTN] at ht); (try (exfalso; omega)))))
    | ((with_reducible refine W_regionI ?_); simp only [List.append_eq, List.cons_append, List.nil_append])
    | (with_reducible refine O_splitG fun cA cB hcA hcB => ?_)
    | ((refine ⟨3 - 3, by omega, 3, rfl, by omega, by simp only [EVB, Nat.reduceEqDiff, reduceIte]; rfl, by simp only [EVB, Nat.reduceEqDiff, reduceIte, e0], by simp only [EVB, Nat.reduceEqDiff, reduceIte, e6], by simp only [EVB, Nat.reduceEqDiff, reduceIte, e7], by simp only [EVB, Nat.reduceEqDiff, reduceIte, e8], kT2⟩)))
  · have e9' : e.get 9 = .int .i64 3 := e9
    repeat' (first
    | (with_reducible first | refine W_pushC fun K hK => ?_ | refine W_blockI ?_ | refine W_scopeI ?_ | refine W_labelI ?_ | refine W_skipI ?_ | refine W_retI ?_ | refine W_exitI ?_ | refine then_normalI ?_ | refine then_retI ?_ | refine then_exitI ?_ | refine inBlock_normalI ?_ | refine inBlock_retI ?_ | refine inBlock_exitI ?_ | refine inBlock_exitN (by decide) ?_)
    | ((with_reducible first | refine bodyQ_normal0 ?_ | refine bodyQ_normal1 ?_ | refine bodyQ_normal2 ?_ | refine bodyQ_normal3 ?_ | refine bodyQ_normal4 ?_ | refine bodyQ_ret0 ?_ | refine bodyQ_ret1 ?_ | refine bodyQ_ret2 ?_ | refine bodyQ_ret3 ?_ | refine bodyQ_ret4 ?_); (try simp only [EVB, Nat.reduceEqDiff, reduceIte]))
    | ((with_reducible show C _ _ _ _ _ _); first | (refine h.sure _ _ ?_))
    | (with_reducible refine Cont.use (by assumption) ?_)
    | (with_reducible first | refine hcA ?_ | refine hcB ?_)
    | ((with_reducible show W _ _ (.region _ _ true) _ _ _); first | (refine W_drawn (fl := [true, true, true, true, false, false, true, true, true, false, false, false, true]) (by kernel_rfl) ?_))
    | ((with_reducible first | refine W_condG fun cA cB hcA hcB => ?_ | refine W_regionI ?_ | show O _ _ _ _ _ _ _ _ | show OK _ _ _ _ _ _ _ _ _ | show OKF _ _ _ _ _ _ _ _ _ _ | show OKT _ _ _ _ _ _ _ _ _ _ _ _ | show _ ∧ _ | show CG _ _ _ | show CB _ _ _); simp (disch := first | ((with_reducible show isStop _ = false); rfl) | ((with_reducible show isP _ = true); rfl) | ((with_reducible show (isStop _ || isP _) = false); rfl) | assumption | (simp only [GSB, Nat.reduceEqDiff, reduceIte]; done) | omega | (with_reducible decide) | (simp only [DSB, Go.Proofs.YtdfgdpjlbcnkfaaDoorAbs.oneC, Nat.reduceAdd, Nat.reduceLeDiff] <;> omega)) only [↓DN, ↓reduceIte, UP, CGB, Int.reduceEq, Int.reduceLT, Int.reduceLE, Nat.reduceEqDiff, Nat.reduceAdd, Nat.reduceMul, Nat.reduceSub, Int.reduceToNat, Nat.reduceLeDiff, PF, isStop, isP, goInt, beq_self_eq_true, decide_true, decide_false, Int.toNat_natCast, Int.natCast_zero, nn_eq, nn_ne, e9', e0, e6, e7, e8])
    | ((with_reducible refine CB_intro (fun ht => hcA ?_) (fun ht => hcB ?_)) <;> (first | (simp only [Bool.true_eq_false, Bool.false_eq_true] at ht; done) | ((try simp only [Bool.not_eq_true', Bool.not_eq_false'] at ht); (try simp only [ht]); (try simp only [HTN] at ht); (try (exfalso; omega)))))
    | ((with_reducible refine W_regionI ?_); simp only [List.append_eq, List.cons_append, List.nil_append])
    | (with_reducible refine O_splitG fun cA cB hcA hcB => ?_)
    | (exact hQ _))
end
end Go.Proofs.YtdfgdpjlbcnkfaaDoor.Q
namespace Go.Proofs.YtdfgdpjlbcnkfaaDoor.Q
open Go Go.Proofs.YtdfgdpjlbcnkfaaDoorAbs Go.Proofs Go.RowKit
set_option linter.unusedVariables false
set_option linter.unusedSimpArgs false
set_option maxRecDepth 1000000
theorem sure_run : isTrue (acall Tryd.prog prims0 60 11 #[] (St.start 7 (fun _ => none))) = true := by kernel_rfl
end Go.Proofs.YtdfgdpjlbcnkfaaDoor.Q
namespace Go.Proofs.YtdfgdpjlbcnkfaaDoor.Q
open Go Go.Proofs.YtdfgdpjlbcnkfaaDoorAbs Go.Proofs Go.RowKit
set_option linter.unusedVariables false
set_option linter.unusedSimpArgs false
theorem mixed : Tryd.prog.follows .mixedOrders = true := by kernel_rfl
open Classical in
noncomputable def pWorks (_ : Nat) (xs : Array Value) (S : St) : Option Value := if xs = #[] ∧ S.get 6 = some ⟨tab64, 0, false, 0⟩ then some (.bool true) else none
theorem isTrue_some {r : Option (Value × St)} (h : isTrue r = true) : ∃ S, r = some (.bool true, S) := by
  unfold isTrue at h
  split at h
  · exact ⟨_, rfl⟩
  · cases h
theorem gl64_ok {S : St} (h6 : S.get 6 = some ⟨tab64, 0, false, 0⟩) : ∀ g cs, g ≤ Tryd.prog.globals.size → gl64 g = some cs → cs.all leaf = true ∧ ∃ el m, S.get g = some ⟨cs, el, false, m⟩ := by
  intro g cs _ hg
  unfold gl64 at hg
  split at hg
  · cases hg
    exact ⟨by decide, _, _, h6⟩
  · cases hg
theorem still_works (k : Nat) : Still Tryd.prog 14 (pWorks k) := ⟨fun xs S v h ρ w ys hrel hxs => by
  unfold pWorks at h
  split at h
  case isFalse => cases h
  rename_i hc
  obtain ⟨rfl, h6⟩ := hc
  cases h
  obtain ⟨S1, hk⟩ := isTrue_some works_run
  have hy : ys = #[] := by
    have := hxs.1
    simp at this
    exact Array.eq_empty_of_size_eq_zero this.symm
  subst hy
  refine (calls_of_run (u := .bool true) prims0_sim mixed rfl (by rw [nglob]; exact hk) hrel (gl64_ok h6)).mono ?_
  rintro e w' ⟨rfl, hb⟩
  exact ⟨_, rfl, VR.scalar rfl, hb⟩⟩
theorem nums8_u8v : ∀ l : List UInt8, nums8 (u8v l) = some (l.map fun b => (b.toNat : Int))
  | [] => rfl
  | b :: l => by
    show (nums8 (u8v l)).map _ = _
    rw [nums8_u8v l]
    rfl
theorem bytes_u8v (l : List UInt8) : Lib.bytesOf (l.map fun b => (b.toNat : Int)) = l := by
  simp [Lib.bytesOf, Function.comp_def]
theorem u8v_leaf (l : List UInt8) : (u8v l).all leaf = true := by
  rw [List.all_eq_true]; intro x hx; simp only [u8v, List.mem_map] at hx; obtain ⟨_, _, rfl⟩ := hx; rfl
end Go.Proofs.YtdfgdpjlbcnkfaaDoor.Q
set_option linter.unusedVariables false
set_option linter.unusedSimpArgs false
namespace Go.Proofs.YtdfgdpjlbcnkfaaDoorW.PrintWords
open Go.RowKit
structure Aside0 (p : Prop) : Prop where mk :: (out : p)
structure Drawn0 (w w' : World) : Prop where mk :: (out : ∃ n, w' = w.drewN n)
theorem Drawn0.refl (w : World) : Drawn0 w w := ⟨⟨0, rfl⟩⟩
theorem Drawn0.step {w w' : World} (h : Drawn0 w w') (n : Nat) : Drawn0 w (w'.drewN n) := by
  obtain ⟨m, rfl⟩ := h
  exact ⟨⟨m + n, World.drewN_drewN ..⟩⟩
theorem Drawn0.grown {w w' : World} (h : Drawn0 w w') : Grown w w' := by
  obtain ⟨n, rfl⟩ := h
  induction n with
  | zero => exact Grown.refl _
  | succ n ih => rw [← World.drew_drewN]; exact Grown.drew ih
theorem Drawn0.below {w w' : World} (h : Drawn0 w w') : Below w.heap.size w w' := by
  obtain ⟨n, rfl⟩ := h
  induction n with
  | zero => exact Below.refl _ _
  | succ n ih => rw [← World.drew_drewN]; exact ih.drew
def rd (xs : List Int) (i : Int) : Int := xs.getD i.toNat 0
def bt (s : ByteArray) (i : Int) : Int := if h : i.toNat < s.size then ((s[i.toNat]'h).toNat : Int) else 0
theorem below_alloc {w W : World} (h : Below w.heap.size w W) (o : Obj) : Below w.heap.size w (W.alloc o) := h.alloc h.size o
theorem pw_below_drewN {B : Nat} {w W : World} (h : Below B w W) (n : Nat) : Below B w (W.drewN n) := ⟨h.os, h.tape, h.output, h.size, h.block⟩
theorem grown_of_below {w w1 : World} (h : Below w.heap.size w w1) (row : Option Nat) : w.grownBy w1 row := ⟨h.os, h.tape, h.output, h.size, fun i hi _ => h.block i hi⟩
theorem pw_cell_below {w w1 : World} (h : Below w.heap.size w w1) {a : Addr} {v : Value} (hc : w.cell? a = some v) : w1.cell? a = some v := (h.cell (World.block_lt_of_cell? w a hc)).trans hc
def ReadsInt (w : World) (k : IntKind) (A : Option Addr) (n : Nat) (xs : List Int) : Prop :=
  xs.length = n ∧ n ≤ 9223372036854775807 ∧ (0 < n → ∃ ad, A = some ad ∧ ∀ j, j < n → w.cell? (ad.add j) = some (.int k (xs.getD j 0)))
theorem ReadsInt.below {w w1 : World} {k : IntKind} {A : Option Addr} {n : Nat} {xs : List Int} (h : ReadsInt w k A n xs) (hb : Below w.heap.size w w1) : ReadsInt w1 k A n xs :=
  ⟨h.1, h.2.1, fun hn => by
    obtain ⟨ad, e, hc⟩ := h.2.2 hn
    exact ⟨ad, e, fun j hj => pw_cell_below hb (hc j hj)⟩⟩
theorem own_nil (W : World) (base : Nat) (e : TypeId) (size : Nat) : W.ownsRow base e size (.slice none 0 0) 0 [] := ⟨by simp, .inl ⟨rfl, rfl⟩⟩
theorem own_base {w : World} {base : Nat} {e : TypeId} {size n : Nat} {v : Value} {xs : List Value} (h : w.ownsRow base e size v n xs) (k : Nat) (hk : v.ownBlock = some k) : base ≤ k := by
  rcases h.2 with ⟨rfl, _⟩ | ⟨g, cap, cur, rfl, hb, _⟩
  · simp [Value.ownBlock] at hk
  · have : g = k := by simpa [Value.ownBlock] using hk
    omega
theorem own_lt {w : World} {base : Nat} {e : TypeId} {size n : Nat} {v : Value} {xs : List Value} (h : w.ownsRow base e size v n xs) (k : Nat) (hk : v.ownBlock = some k) : k < w.heap.size := by
  rcases h.2 with ⟨rfl, _⟩ | ⟨g, cap, cur, rfl, hb, hh, _⟩
  · simp [Value.ownBlock] at hk
  · have : g = k := by simpa [Value.ownBlock] using hk
    subst this
    exact (Array.getElem?_eq_some_iff.1 hh).1
theorem pw_own_below {w w1 : World} {base : Nat} {e : TypeId} {size n : Nat} {v : Value} {xs : List Value} (h : w.ownsRow base e size v n xs) (hb : Below w.heap.size w w1) : w1.ownsRow base e size v n xs :=
  h.kept (grown_of_below hb none) (by cases v.ownBlock <;> simp)
theorem own_slice {w : World} {base n : Nat} {e : TypeId} {size : Nat} {v : Value} {xs : List Value} (h : w.ownsRow base e size v n xs) : ∃ A c, v = .slice A n c := by
  rcases h.2 with ⟨rfl, rfl⟩ | ⟨g, cap, cur, rfl, _⟩
  · exact ⟨none, 0, rfl⟩
  · exact ⟨_, cap, rfl⟩
section
variable {P : Program} {ops : Array Oper} {rest : List Oper} {o : Oper} {a : Act} {Q : Exit → Act → World → Prop}
end
section
variable {P : Program}
end
section
variable {P : Program} {ops : Array Oper} {rest : List Oper} {o : Oper} {a : Act} {Q : Exit → Act → World → Prop}
end
def bytesOf (s : ByteArray) : List Int := s.data.toList.map fun b => (b.toNat : Int)
def LeO {α : Type} (a b : Option α) : Prop := ∀ r, a = some r → b = some r
theorem LeO.refl {α : Type} (a : Option α) : LeO a a := fun _ h => h
theorem LeO.none {α : Type} (b : Option α) : LeO Option.none b := fun _ h => by cases h
theorem LeO.trans {α : Type} {a b c : Option α} (h : LeO a b) (k : LeO b c) : LeO a c := fun r hr => k r (h r hr)
theorem LeO.bind {α β : Type} {a a' : Option α} {f f' : α → Option β} (h : LeO a a') (k : ∀ x, LeO (f x) (f' x)) : LeO (a.bind f) (a'.bind f') := by
  intro r hr
  obtain ⟨x, hx, hf⟩ := Option.bind_eq_some_iff.1 hr
  exact Option.bind_eq_some_iff.2 ⟨x, h x hx, k x r hf⟩
theorem LeO.map {α β : Type} {a a' : Option α} (f : α → β) (h : LeO a a') : LeO (a.map f) (a'.map f) := by
  intro r hr
  obtain ⟨x, hx, hf⟩ := Option.map_eq_some_iff.1 hr
  exact Option.map_eq_some_iff.2 ⟨x, h x hx, hf⟩
theorem more_rounds {α : Type} {g : Nat → Option α} (h : ∀ k, LeO (g k) (g (k + 1))) (k : Nat) : ∀ j, LeO (g k) (g (k + j))
  | 0 => LeO.refl _
  | j + 1 => (more_rounds h k j).trans (h (k + j))
theorem at_rounds {α : Type} {g : Nat → Option α} (h : ∀ k, LeO (g k) (g (k + 1))) {k k' : Nat} (hk : k ≤ k') {r : α} (hr : g k = some r) : g k' = some r := by
  have := more_rounds h k (k' - k) r hr
  rwa [Nat.add_sub_cancel' hk] at this
def Reps {α : Type} (R : α → List Value → Prop) (size : Nat) (ps : List α) (cs : List Value) : Prop :=
  cs.length = ps.length * size ∧ ∀ j p, ps[j]? = some p → R p ((cs.drop (j * size)).take size)
theorem Reps.none {α : Type} (R : α → List Value → Prop) (size : Nat) : Reps R size [] [] := ⟨by simp, fun j p h => by simp at h⟩
theorem Reps.snoc {α : Type} {R : α → List Value → Prop} {size : Nat} {ps : List α} {cs c : List Value} {p : α} (h : Reps R size ps cs) (hp : R p c) (hc : c.length = size) : Reps R size (ps ++ [p]) (cs ++ c) := by
  refine ⟨by rw [List.length_append, h.1, hc, List.length_append, List.length_singleton, Nat.add_mul, Nat.one_mul], fun j q hq => ?_⟩
  rcases Nat.lt_or_ge j ps.length with hj | hj
  · rw [List.getElem?_append_left hj] at hq
    have h1 : j * size + size ≤ cs.length := by rw [h.1, ← Nat.succ_mul]; exact Nat.mul_le_mul_right _ hj
    have h2 := h.2 j q hq
    rw [List.drop_append_of_le_length (by omega), List.take_append_of_le_length (by rw [List.length_drop]; omega)]
    exact h2
  · have hj' : j = ps.length := by
      have := (List.getElem?_eq_some_iff.1 hq).1
      rw [List.length_append, List.length_singleton] at this
      omega
    subst hj'
    have hq' : p = q := by simpa using hq
    subst hq'
    rw [← h.1, List.drop_left, ← hc, List.take_length]
    exact hp
theorem Reps.imp_ {α : Type} {R R' : α → List Value → Prop} {size : Nat} {ps : List α} {cs : List Value} (h : Reps R size ps cs) (hR : ∀ p c, R p c → R' p c) : Reps R' size ps cs := ⟨h.1, fun j p hj => hR _ _ (h.2 j p hj)⟩
def ReadsRow {α : Type} (R : α → List Value → Prop) (size : Nat) (w : World) (A : Option Addr) (n : Nat) (ps : List α) : Prop :=
  ps.length = n ∧ n ≤ 9223372036854775807 ∧ (0 < n → ∃ ad, A = some ad ∧ ∀ j p, ps[j]? = some p → ∃ c, c.length = size ∧ R p c ∧ ∀ i u, c[i]? = some u → w.cell? (ad.add (j * size + i)) = some u)
theorem ReadsRow.imp_ {α : Type} {R R' : α → List Value → Prop} {size : Nat} {w w1 : World} {A : Option Addr} {n : Nat} {ps : List α} (h : ReadsRow R size w A n ps) (hb : Below w.heap.size w w1) (hR : ∀ p c, R p c → R' p c) : ReadsRow R' size w1 A n ps :=
  ⟨h.1, h.2.1, fun hn => by
    obtain ⟨ad, e, hc⟩ := h.2.2 hn
    refine ⟨ad, e, fun j p hj => ?_⟩
    obtain ⟨c, hs, hr, hcell⟩ := hc j p hj
    exact ⟨c, hs, hR _ _ hr, fun i u hu => pw_cell_below hb (hcell i u hu)⟩⟩
theorem own_reads_row {α : Type} {R : α → List Value → Prop} {w : World} {base n size : Nat} {e : TypeId} {v : Value} {ps : List α} {cs : List Value} (h : w.ownsRow base e size v n cs) (hR : Reps R size ps cs) (hn : ps.length = n) :
    ∃ A c, v = .slice A n c ∧ ReadsRow R size w A n ps := by
  rcases Nat.eq_zero_or_pos n with h0 | h0
  · rcases h.2 with ⟨rfl, rfl⟩ | ⟨g, cap, cur, rfl, _⟩
    · exact ⟨none, 0, rfl, hn, by omega, fun hp => absurd hp (by omega)⟩
    · exact ⟨_, cap, rfl, hn, by omega, fun hp => absurd hp (by omega)⟩
  · obtain ⟨g, cap, rfl, _, _⟩ := h.form h0
    have hm : n ≤ 9223372036854775807 := by
      rcases h.2 with ⟨_, h1⟩ | ⟨g', cap', cur, he, _, _, h1, h2, _⟩
      · omega
      · simp only [maxLen] at h2
        omega
    refine ⟨_, cap, rfl, hn, hm, fun _ => ⟨_, rfl, fun j p hj => ⟨(cs.drop (j * size)).take size, ?_, hR.2 j p hj, fun i u hu => ?_⟩⟩⟩
    · have hjl := (List.getElem?_eq_some_iff.1 hj).1
      have h1 : j * size + size ≤ cs.length := by rw [hR.1, ← Nat.succ_mul]; exact Nat.mul_le_mul_right _ hjl
      rw [List.length_take, List.length_drop]
      omega
    · refine h.cells (g := g) rfl _ u ?_
      rw [List.getElem?_take] at hu
      split at hu
      · rw [List.getElem?_drop] at hu
        exact hu
      · cases hu
section
variable {P : Program} {ops : Array Oper} {rest : List Oper} {o : Oper} {a : Act} {Q : Exit → Act → World → Prop}
theorem print_append_cells {w0 W : World} (base : Nat) (hgd : o.guard = none) (s x : Operand) (t e : TypeId) (z : Value) (size bytes : Nat)
    (ho : o.op = .call { callee := .builtin .append, args := #[s, x], argTypes := #[t, t] })
    (ht : P.underlying t = some (.slice e)) (hinfo : (P.info? e).map (fun i => (i.zero, i.size, i.bytes)) = some (some z, size, bytes)) (hz : z.cells.size = size) (hs0 : 0 < size) (hb0 : 0 < bytes)
    (v : Value) (n : Nat) (xs ys : List Value) (hs : a.eval s = v) (hx : a.eval x = .slice (some ⟨W.heap.size, 0, none⟩) 1 1) (hys : ys.length = size) (h1 : ∀ u ∈ ys, u.oneCell' = true)
    (HO : W.ownsRow base e size v n xs) (HB : Below base w0 W) (hbase : base ≤ W.heap.size) (hl : (n + 1) * bytes ≤ 140737488355328)
    (h : ∀ v1 w1, w1.ownsRow base e size v1 (n + 1) (xs ++ ys) → Below base w0 w1 → W.grownBy w1 v.ownBlock → (v1.ownBlock = v.ownBlock ∨ ∃ b, v1.ownBlock = some b ∧ W.heap.size ≤ b) → wpList P ops Q rest (a.put o.dst v1) w1) :
    wpList P ops Q (o :: rest) a (W.alloc (.cells ys.toArray e)) := by
  obtain ⟨i0, hi, hzz⟩ := Option.map_eq_some_iff.1 hinfo
  simp only [Prod.mk.injEq] at hzz
  obtain ⟨hz0, hz1, hz2⟩ := hzz
  have hlen : n + 1 ≤ 140737488355328 := Nat.le_trans (Nat.le_mul_of_pos_right _ hb0) hl
  refine wpList_append_own_at (W.alloc (.cells ys.toArray e)) hgd s x t ho base e i0 z size bytes ht hi hz0 hz1 hz2 hz hs0 v n xs hs (HO.alloc _) ⟨W.heap.size, 0, none⟩ 1 1 ys hx (by rw [hys]; simp)
    (by simpa using World.news_of_block (cs := ys.toArray) (t := e) (fr := (0, 0)) (heap_alloc_new W (.cells ys.toArray e))) h1 (by simp only [maxLen]; omega) hl (by simp; omega) ?_
  intro v1 w1 hown hg _ hat
  refine h v1 w1 hown ((HB.alloc hbase _).grown hg (by simp; omega) (own_base HO)) (World.grownBy.trans (World.grownBy_alloc W _ _) hg) ?_
  rcases hat with hat | hat
  · exact .inl hat
  · exact .inr ⟨_, hat, by simp⟩
end
theorem own_ne {w : World} {base : Nat} {e t : TypeId} {size n g : Nat} {v : Value} {xs : List Value} {cs : Array Value} (h : w.ownsRow base e size v n xs) (hg : w.heap[g]? = some (.cells cs t (0, 0))) (hne : e ≠ t) : some g ≠ v.ownBlock := by
  rcases h.2 with ⟨rfl, _⟩ | ⟨g', cap, cur, rfl, _, hh, _⟩
  · simp [Value.ownBlock]
  · intro he
    have : g = g' := by simpa [Value.ownBlock] using he
    subst this
    rw [hg] at hh
    injection hh with hh
    injection hh with _ ht
    exact hne ht.symm
theorem blk_set {w : World} {g : Nat} {t : TypeId} {cs : Array Value} (h : w.heap[g]? = some (.cells cs t (0, 0))) (i : Nat) (u : Value) : (w.setCell ⟨g, i, none⟩ u).heap[g]? = some (.cells (cs.setIfInBounds i u) t (0, 0)) := by
  simp [World.setCell, Array.getElem?_modify, h]
theorem blk_lt {w : World} {g : Nat} {o : Obj} (h : w.heap[g]? = some o) : g < w.heap.size := (Array.getElem?_eq_some_iff.1 h).1
theorem blk_cell {w : World} {g : Nat} {t : TypeId} {cs : Array Value} (h : w.heap[g]? = some (.cells cs t (0, 0))) (i : Nat) : w.cell? ⟨g, i, none⟩ = cs[i]? := cell_of_row w g i cs t (0, 0) h
theorem blk_frozen {w : World} {g : Nat} {t : TypeId} {cs : Array Value} (h : w.heap[g]? = some (.cells cs t (0, 0))) (i : Nat) : w.frozen? ⟨g, i, none⟩ = false := by simp [World.frozen?, h]
def KeepBut (w w' : World) (g : Nat) (row : Option Nat) : Prop := w.heap.size ≤ w'.heap.size ∧ ∀ i, i < w.heap.size → i ≠ g → some i ≠ row → w'.heap[i]? = w.heap[i]?
theorem KeepBut.refl (w : World) (g : Nat) (row : Option Nat) : KeepBut w w g row := ⟨Nat.le_refl _, fun _ _ _ _ => rfl⟩
theorem KeepBut.of_below {w w1 : World} (h : Below w.heap.size w w1) (g : Nat) (row : Option Nat) : KeepBut w w1 g row := ⟨h.size, fun i hi _ _ => h.block i hi⟩
theorem KeepBut.trans {w w1 w2 : World} {g : Nat} {row row1 : Option Nat} (h : KeepBut w w1 g row) (k : KeepBut w1 w2 g row1) (hr : row1 = row ∨ ∃ b, row1 = some b ∧ w.heap.size ≤ b) : KeepBut w w2 g row :=
  ⟨Nat.le_trans h.1 k.1, fun i hi hg hn => by
    refine (k.2 i (Nat.lt_of_lt_of_le hi h.1) hg ?_).trans (h.2 i hi hg hn)
    rcases hr with rfl | ⟨b, rfl, hb⟩
    · exact hn
    · intro e
      injection e with e
      omega⟩
theorem KeepBut.blk {w w1 : World} {g g' : Nat} {row : Option Nat} {o : Obj} (h : KeepBut w w1 g row) (hb : w.heap[g']? = some o) (hg : g' ≠ g) (hr : some g' ≠ row) : w1.heap[g']? = some o := (h.2 g' (blk_lt hb) hg hr).trans hb
theorem KeepBut.own {w w1 : World} {g : Nat} {row : Option Nat} {base : Nat} {e : TypeId} {size n : Nat} {v : Value} {xs : List Value} (h : KeepBut w w1 g row) (ho : w.ownsRow base e size v n xs) (hg : v.ownBlock ≠ some g) (hr : v.ownBlock = none ∨ v.ownBlock ≠ row) : w1.ownsRow base e size v n xs := by
  obtain ⟨h1, h2⟩ := ho
  refine ⟨h1, ?_⟩
  rcases h2 with h2 | ⟨b, cap, cur, rfl, hb, hh, r⟩
  · exact .inl h2
  · refine .inr ⟨b, cap, cur, rfl, hb, h.blk hh ?_ ?_, r⟩
    · intro e
      exact hg (by rw [← e]; rfl)
    · rcases hr with hr | hr
      · simp [Value.ownBlock] at hr
      · exact hr
def Ev {α : Type} (g : Nat → Option α) (r : α) : Prop := ∃ K, ∀ k, K ≤ k → g k = some r
theorem Ev.of {α : Type} {g : Nat → Option α} {r : α} (hg : ∀ k, LeO (g k) (g (k + 1))) {k : Nat} (h : g k = some r) : Ev g r := ⟨k, fun _ hk => at_rounds hg hk h⟩
theorem Ev.bind {α β : Type} {g : Nat → Option α} {f : Nat → α → Option β} {a : α} {r : β} (h : Ev g a) (k : Ev (fun n => f n a) r) : Ev (fun n => (g n).bind (f n)) r := by
  obtain ⟨K, h⟩ := h
  obtain ⟨K', k⟩ := k
  refine ⟨max K K', fun n hn => ?_⟩
  have h1 := h n (by omega)
  have h2 := k n (by omega)
  simp only [h1, Option.bind_some]
  exact h2
theorem Ev.step {α : Type} {g f : Nat → Option α} {r : α} (h : ∀ k, g (k + 1) = f k) (k : Ev f r) : Ev g r := by
  obtain ⟨K, k⟩ := k
  refine ⟨K + 1, fun n hn => ?_⟩
  obtain ⟨m, rfl⟩ : ∃ m, n = m + 1 := ⟨n - 1, by omega⟩
  rw [h]
  exact k m (by omega)
theorem Ev.congr {α : Type} {g f : Nat → Option α} {r : α} (h : ∀ k, g k = f k) (k : Ev f r) : Ev g r := by
  obtain ⟨K, k⟩ := k
  exact ⟨K, fun n hn => (h n).trans (k n hn)⟩
section
variable {P : Program} {ops : Array Oper} {o : Oper} {a : Act} {Q : Exit → Act → World → Prop} {K : Act → World → Prop}
end
theorem own_weaken {w : World} {base base' : Nat} {e : TypeId} {size n : Nat} {v : Value} {xs : List Value} (h : w.ownsRow base e size v n xs) (hb : base' ≤ base) : w.ownsRow base' e size v n xs := by
  obtain ⟨h1, h2⟩ := h
  refine ⟨h1, ?_⟩
  rcases h2 with h2 | ⟨g, cap, cur, rfl, hg, r⟩
  · exact .inl h2
  · exact .inr ⟨g, cap, cur, rfl, Nat.le_trans hb hg, r⟩
section
variable {α : Type} {enc : α → Value} {d : α}
def ReadsOf (enc : α → Value) (d : α) (w : World) (A : Option Addr) (n : Nat) (xs : List α) : Prop :=
  xs.length = n ∧ n ≤ 9223372036854775807 ∧ (0 < n → ∃ ad, A = some ad ∧ ∀ j, j < n → w.cell? (ad.add j) = some (enc (xs.getD j d)))
theorem ReadsOf.below {w w1 : World} {A : Option Addr} {n : Nat} {xs : List α} (h : ReadsOf enc d w A n xs) (hb : Below w.heap.size w w1) : ReadsOf enc d w1 A n xs :=
  ⟨h.1, h.2.1, fun hn => by
    obtain ⟨ad, e, hc⟩ := h.2.2 hn
    exact ⟨ad, e, fun j hj => pw_cell_below hb (hc j hj)⟩⟩
end
section
variable {α : Type} {P : Program} {ops : Array Oper} {rest : List Oper} {o : Oper} {a : Act} {Q : Exit → Act → World → Prop}
end
theorem blk_new (w : World) (o : Obj) : (w.alloc o).heap[w.heap.size]? = some o := heap_alloc_new w o
section
variable {P : Program}
end
theorem own_le {w : World} {base n m c size : Nat} {e : TypeId} {A : Option Addr} {xs : List Value} (h : w.ownsRow base e size (.slice A m c) n xs) : m ≤ c := by
  rcases h.2 with ⟨he, _⟩ | ⟨g, cap, cur, he, _, _, hnc, _⟩
  · injection he with _ h2 h3
    omega
  · injection he with _ h2 h3
    omega
def OwnRow {α : Type} (R : α → List Value → Prop) (e : TypeId) (size : Nat) (w : World) (base : Nat) (v : Value) (ps : List α) : Prop :=
  ∃ inner, w.ownsRow base e size v ps.length inner ∧ Reps R size ps inner
section
variable {α : Type} {R R' : α → List Value → Prop} {e : TypeId} {size : Nat} {w w1 : World} {base : Nat} {v : Value} {ps : List α}
theorem OwnRow.none_ (R : α → List Value → Prop) (e : TypeId) (size : Nat) (w : World) (base : Nat) : OwnRow R e size w base (.slice none 0 0) [] := ⟨[], own_nil _ _ _ _, Reps.none _ _⟩
theorem OwnRow.imp_ (h : OwnRow R e size w base v ps) (hR : ∀ p c, R p c → R' p c) : OwnRow R' e size w base v ps := by
  obtain ⟨inner, ho, hr⟩ := h
  exact ⟨inner, ho, hr.imp_ hR⟩
theorem OwnRow.below (h : OwnRow R e size w base v ps) (hb : Below w.heap.size w w1) : OwnRow R e size w1 base v ps := by
  obtain ⟨inner, ho, hr⟩ := h
  exact ⟨inner, pw_own_below ho hb, hr⟩
theorem OwnRow.keep (h : OwnRow R e size w base v ps) {g : Nat} {t : TypeId} {cells : Array Value} (hb : w.heap[g]? = some (.cells cells t (0, 0))) (ht : e ≠ t) (hk : KeepBut w w1 g none) : OwnRow R e size w1 base v ps := by
  obtain ⟨inner, ho, hr⟩ := h
  exact ⟨inner, hk.own ho (Ne.symm (own_ne ho hb ht)) (by cases v.ownBlock <;> simp), hr⟩
theorem OwnRow.reads (h : OwnRow R e size w base v ps) : ∃ A c, v = .slice A ps.length c ∧ ps.length ≤ c ∧ ReadsRow R size w A ps.length ps := by
  obtain ⟨inner, ho, hr⟩ := h
  obtain ⟨A, c, rfl, hrow⟩ := own_reads_row ho hr rfl
  exact ⟨A, c, rfl, own_le ho, hrow⟩
theorem OwnRow.lit (W : World) (base : Nat) {inner : List Value} (hr : Reps R size ps inner) (hb : base ≤ W.heap.size) (hm : ps.length ≤ 9223372036854775807) :
    OwnRow R e size (W.alloc (.cells inner.toArray e)) base (.slice (some ⟨W.heap.size, 0, none⟩) ps.length ps.length) ps := by
  have h := World.ownsRow_lit (base := base) (e := e) (size := size) W inner.toArray ps.length hb (by simpa [maxLen] using hm) (by simpa using hr.1)
  exact ⟨inner, by simpa using h, hr⟩
end
section
variable {P : Program} {ops : Array Oper} {rest : List Oper} {o : Oper} {a : Act} {Q : Exit → Act → World → Prop} {α : Type} {R : α → List Value → Prop}
theorem OwnRow.append {w0 W : World} (base : Nat) (hgd : o.guard = none) (s x : Operand) (t e : TypeId) (z : Value) (size bytes : Nat)
    (ho : o.op = .call { callee := .builtin .append, args := #[s, x], argTypes := #[t, t] })
    (ht : P.underlying t = some (.slice e)) (hinfo : (P.info? e).map (fun i => (i.zero, i.size, i.bytes)) = some (some z, size, bytes)) (hz : z.cells.size = size) (hs0 : 0 < size) (hb0 : 0 < bytes)
    (v : Value) (ps : List α) (p : α) (cs : List Value) (hs : a.eval s = v) (hx : a.eval x = .slice (some ⟨W.heap.size, 0, none⟩) 1 1) (hp : R p cs) (hcs : cs.length = size) (h1 : ∀ u ∈ cs, u.oneCell' = true)
    (HO : OwnRow R e size W base v ps) (HB : Below base w0 W) (hbase : base ≤ W.heap.size) (hl : (ps.length + 1) * bytes ≤ 140737488355328)
    (h : ∀ v1 w1, OwnRow R e size w1 base v1 (ps ++ [p]) → Below base w0 w1 → W.grownBy w1 v.ownBlock → (v1.ownBlock = v.ownBlock ∨ ∃ b, v1.ownBlock = some b ∧ W.heap.size ≤ b) → wpList P ops Q rest (a.put o.dst v1) w1) :
    wpList P ops Q (o :: rest) a (W.alloc (.cells cs.toArray e)) := by
  obtain ⟨inner, hown, hr⟩ := HO
  refine print_append_cells base hgd s x t e z size bytes ho ht hinfo hz hs0 hb0 v ps.length inner cs hs hx hcs h1 hown HB hbase hl ?_
  intro v1 w1 hown1 hb1 hg1 hat1
  exact h v1 w1 ⟨inner ++ cs, by rw [List.length_append, List.length_singleton]; exact hown1, hr.snoc hp hcs⟩ hb1 hg1 hat1
end
section
variable {P : Program} {ops : Array Oper} {o : Oper} {a : Act} {Q : Exit → Act → World → Prop} {K : Act → World → Prop} {α : Type} {R : α → List Value → Prop}
end
section
variable {α : Type} {P : Program}
theorem ReadsOf.len_ {enc : α → Value} {d : α} {w : World} {A : Option Addr} {n : Nat} {xs : List α} (h : ReadsOf enc d w A n xs) : ReadsOf enc d w A xs.length xs := by rw [h.1]; exact h
end
section
variable {P : Program} {ops : Array Oper} {rest : List Oper} {o : Oper} {a : Act} {Q : Exit → Act → World → Prop}
end
structure Kd (α : Type) where
  sz : Nat
  E : List Nat
  K : World → α → List Value → Prop
  M : World → Nat → (Nat → Prop) → α → List Value → Prop
  K_len : ∀ {w x cs}, K w x cs → cs.length = sz
  K_one : ∀ {w x cs}, K w x cs → ∀ u ∈ cs, u.oneCell' = true
  K_below : ∀ {w w1 : World} {x cs}, Below w.heap.size w w1 → K w x cs → K w1 x cs
  K_of_M : ∀ {w base ok x cs}, M w base ok x cs → K w x cs
  M_mono : ∀ {w base ok ok' x cs}, (∀ k, ok k → ok' k) → M w base ok x cs → M w base ok' x cs
  M_bound : ∀ {w : World} {base ok x cs}, M w base ok x cs → M w base (fun k => ok k ∧ base ≤ k ∧ k < w.heap.size ∧ ∃ q, q ∈ E ∧ ∃ cells, w.heap[k]? = some (.cells cells q (0, 0))) x cs
  M_move : ∀ {w w1 : World} {base ok x cs}, (∀ k, ok k → w1.heap[k]? = w.heap[k]?) → M w base ok x cs → M w1 base ok x cs
  M_lower : ∀ {w base base' ok x cs}, base' ≤ base → M w base ok x cs → M w base' ok x cs
theorem own_move {w w1 : World} {base : Nat} {e : TypeId} {size n : Nat} {v : Value} {xs : List Value} (h : w.ownsRow base e size v n xs) (hm : ∀ k, v.ownBlock = some k → w1.heap[k]? = w.heap[k]?) : w1.ownsRow base e size v n xs := by
  obtain ⟨h1, h2⟩ := h
  refine ⟨h1, ?_⟩
  rcases h2 with h2 | ⟨g, cap, cur, rfl, hg, hh, r⟩
  · exact .inl h2
  · exact .inr ⟨g, cap, cur, rfl, hg, (hm g (by simp [Value.ownBlock])).trans hh, r⟩
theorem own_typed {w : World} {base : Nat} {e : TypeId} {size n : Nat} {v : Value} {xs : List Value} (h : w.ownsRow base e size v n xs) (k : Nat) (hk : v.ownBlock = some k) : ∃ cells, w.heap[k]? = some (.cells cells e (0, 0)) := by
  rcases h.2 with ⟨rfl, _⟩ | ⟨g, cap, cur, rfl, hg, hh, r⟩
  · simp [Value.ownBlock] at hk
  · have : g = k := by simpa [Value.ownBlock] using hk
    subst this
    exact ⟨cur, hh⟩
namespace Kd
def C {α : Type} (d : Kd α) (w : World) (A : Option Addr) (n : Nat) (xs : List α) : Prop := ReadsRow (d.K w) d.sz w A n xs
def R {α : Type} (d : Kd α) (e : Nat) (w : World) (base : Nat) (ok : Nat → Prop) (v : Value) (xs : List α) : Prop :=
  (∀ k, v.ownBlock = some k → ok k) ∧ OwnRow (d.M w base (fun k => ok k ∧ some k ≠ v.ownBlock)) e d.sz w base v xs
section
variable {α : Type} {d : Kd α} {e : Nat} {w w1 : World} {base : Nat} {ok ok' : Nat → Prop} {v : Value} {xs : List α}
theorem C_below {A : Option Addr} {n : Nat} (h : d.C w A n xs) (hb : Below w.heap.size w w1) : d.C w1 A n xs := ReadsRow.imp_ h hb (fun _ _ hp => d.K_below hb hp)
theorem R_mono (h : d.R e w base ok v xs) (hok : ∀ k, ok k → ok' k) : d.R e w base ok' v xs := ⟨fun k hk => hok k (h.1 k hk), h.2.imp_ (fun _ _ hp => d.M_mono (fun k hk => ⟨hok k hk.1, hk.2⟩) hp)⟩
theorem R_bound (h : d.R e w base ok v xs) : d.R e w base (fun k => ok k ∧ base ≤ k ∧ k < w.heap.size ∧ ∃ q, q ∈ e :: d.E ∧ ∃ cells, w.heap[k]? = some (.cells cells q (0, 0))) v xs := by
  obtain ⟨h0, inner, ho, hr⟩ := h
  refine ⟨fun k hk => ?_, inner, ho, hr.imp_ (fun _ _ hp => d.M_mono (fun k hk => ?_) (d.M_bound hp))⟩
  · obtain ⟨cells, hc⟩ := own_typed ho k hk
    exact ⟨h0 k hk, own_base ho k hk, own_lt ho k hk, e, List.mem_cons_self, cells, hc⟩
  · obtain ⟨⟨h1, h2⟩, h3, h4, q, hq, hc⟩ := hk
    exact ⟨⟨h1, h3, h4, q, List.mem_cons_of_mem _ hq, hc⟩, h2⟩
theorem R_move (h : d.R e w base ok v xs) (hm : ∀ k, ok k → w1.heap[k]? = w.heap[k]?) : d.R e w1 base ok v xs := by
  obtain ⟨h0, inner, ho, hr⟩ := h
  exact ⟨h0, inner, own_move ho (fun k hk => hm k (h0 k hk)), hr.imp_ (fun _ _ hp => d.M_move (fun k hk => hm k hk.1) hp)⟩
theorem R_lower {base' : Nat} (h : d.R e w base ok v xs) (hb : base' ≤ base) : d.R e w base' ok v xs := by
  obtain ⟨h0, inner, ho, hr⟩ := h
  exact ⟨h0, inner, own_weaken ho hb, hr.imp_ (fun _ _ hp => d.M_lower hb hp)⟩
theorem R_reads (h : d.R e w base ok v xs) : ∃ A c, v = .slice A xs.length c ∧ xs.length ≤ c ∧ d.C w A xs.length xs := by
  obtain ⟨A, c, he, hl, hr⟩ := OwnRow.reads h.2
  exact ⟨A, c, he, hl, hr.imp_ (Below.refl _ _) (fun _ _ hp => d.K_of_M hp)⟩
end
def scalar {α : Type} (enc : α → Value) (h1 : ∀ x, (enc x).oneCell' = true) : Kd α where
  sz := 1
  E := []
  K := fun _ x cs => cs = [enc x]
  M := fun _ _ _ x cs => cs = [enc x]
  K_len := fun h => by rw [h]; rfl
  K_one := fun h u hu => by
    rw [h] at hu
    rw [List.mem_singleton.1 hu]
    exact h1 _
  K_below := fun _ h => h
  K_of_M := fun h => h
  M_mono := fun _ h => h
  M_bound := fun h => h
  M_move := fun _ h => h
  M_lower := fun _ h => h
def int (k : IntKind) : Kd Int := scalar (Value.int k) (fun _ => rfl)
def bool : Kd Bool := scalar Value.bool (fun _ => rfl)
def string : Kd ByteArray := scalar Value.string (fun _ => rfl)
def slice {α : Type} (e : Nat) (d : Kd α) : Kd (List α) where
  sz := 1
  E := e :: d.E
  K := fun w xs cs => ∃ A c, cs = [.slice A xs.length c] ∧ xs.length ≤ c ∧ d.C w A xs.length xs
  M := fun w base ok xs cs => ∃ v, cs = [v] ∧ d.R e w base ok v xs
  K_len := by
    rintro w x cs ⟨A, c, rfl, _⟩
    rfl
  K_one := by
    rintro w x cs ⟨A, c, rfl, _⟩ u hu
    rw [List.mem_singleton.1 hu]
    rfl
  K_below := by
    rintro w w1 x cs hb ⟨A, c, rfl, hl, hr⟩
    exact ⟨A, c, rfl, hl, C_below hr hb⟩
  K_of_M := by
    rintro w base ok x cs ⟨v, rfl, h⟩
    obtain ⟨A, c, rfl, hl, hr⟩ := R_reads h
    exact ⟨A, c, rfl, hl, hr⟩
  M_mono := by
    rintro w base ok ok' x cs hok ⟨v, rfl, h⟩
    exact ⟨v, rfl, R_mono h hok⟩
  M_bound := by
    rintro w base ok x cs ⟨v, rfl, h⟩
    exact ⟨v, rfl, R_bound h⟩
  M_move := by
    rintro w w1 base ok x cs hm ⟨v, rfl, h⟩
    exact ⟨v, rfl, R_move h hm⟩
  M_lower := by
    rintro w base base' ok x cs hb ⟨v, rfl, h⟩
    exact ⟨v, rfl, R_lower h hb⟩
def bot {α : Type} (sz : Nat) (E : List Nat) : Kd α where
  sz := sz
  E := E
  K := fun _ _ _ => False
  M := fun _ _ _ _ _ => False
  K_len := fun h => h.elim
  K_one := fun h => h.elim
  K_below := fun _ h => h
  K_of_M := fun h => h
  M_mono := fun _ h => h
  M_bound := fun h => h
  M_move := fun _ h => h
  M_lower := fun _ h => h
def upto {α : Type} (F : Kd α → Kd α) (sz : Nat) (E : List Nat) : Nat → Kd α
  | 0 => bot sz E
  | n + 1 => F (upto F sz E n)
section
variable {P : Program} {ops : Array Oper} {rest : List Oper} {o : Oper} {a : Act} {Q : Exit → Act → World → Prop} {α : Type}
end
section
variable {P : Program} {ops : Array Oper} {o : Oper} {a : Act} {Q : Exit → Act → World → Prop} {Kc : Act → World → Prop} {α : Type}
end
end Kd
namespace Kd
structure Mono {α β : Type} (F : Kd α → Kd β) : Prop where
  sz : ∀ d d' : Kd α, d.sz = d'.sz → (F d).sz = (F d').sz
  K : ∀ d d' : Kd α, d.sz = d'.sz → (∀ w x cs, d.K w x cs → d'.K w x cs) → ∀ w x cs, (F d).K w x cs → (F d').K w x cs
  M : ∀ d d' : Kd α, d.sz = d'.sz → (∀ w base ok x cs, d.M w base ok x cs → d'.M w base ok x cs) → ∀ w base ok x cs, (F d).M w base ok x cs → (F d').M w base ok x cs
section
variable {α : Type} {F : Kd α → Kd α} {sz : Nat} {E : List Nat} {hs : ∀ n, (upto F sz E n).sz = sz} {hE : ∀ n q, q ∈ (upto F sz E n).E → q ∈ E}
end
end Kd
namespace Kd
end Kd
namespace Kd
section
variable {α β : Type} {d : Kd α} {d' : Kd β} {e e' : Nat} {w w1 W : World} {base b b' : Nat} {ok ok' okv oku : Nat → Prop} {v u : Value} {xs : List α} {ys : List β}
theorem C_nil (d : Kd α) (w : World) : d.C w none ([] : List α).length [] := ⟨rfl, by simp, fun h => absurd h (Nat.lt_irrefl 0)⟩
end
section
variable {w W : World} {A : Option Addr} {n : Nat}
variable {α : Type} {enc : α → Value} {h1 : ∀ x, (enc x).oneCell' = true} {e base g cap : Nat} {ok : Nat → Prop} {xs : List α}
end
section
variable {P : Program} {ops : Array Oper} {rest : List Oper} {o : Oper} {a : Act} {Q : Exit → Act → World → Prop}
variable {α : Type}
end
end Kd
section
variable {P : Program}
end
def QRow (w : World) (base : Nat) (e : TypeId) (size : Nat) (v : Value) (n : Nat) (xs : List Value) : Prop :=
  xs.length = n * size ∧
  ((n = 0 ∧ ∃ A, v = .slice A 0 0 ∧ ∀ a, A = some a → base ≤ a.block ∧ ∃ cur, w.heap[a.block]? = some (.cells cur e (0, 0))) ∨
   ∃ g off cap cur, v = .slice (some ⟨g, off * size, none⟩) n cap ∧ base ≤ g ∧ w.heap[g]? = some (.cells cur e (0, 0)) ∧ n ≤ cap ∧ off + cap ≤ maxLen ∧ cur.size = (off + cap) * size ∧ (cur.toList.drop (off * size)).take (n * size) = xs)
section
variable {w w1 : World} {base n size : Nat} {e : TypeId} {v : Value} {xs : List Value}
end
section
variable {P : Program}
end
namespace Kd
def Q {α : Type} (d : Kd α) (e : Nat) (w : World) (base : Nat) (ok : Nat → Prop) (v : Value) (xs : List α) : Prop :=
  (∀ k, v.ownBlock = some k → ok k) ∧ ∃ inner, QRow w base e d.sz v xs.length inner ∧ Reps (d.M w base (fun k => ok k ∧ some k ≠ v.ownBlock)) d.sz xs inner
section
variable {α : Type} {d : Kd α} {e : Nat} {w w1 W : World} {base : Nat} {ok ok' : Nat → Prop} {v : Value} {xs : List α}
end
section
variable {P : Program} {ops : Array Oper} {rest : List Oper} {o : Oper} {a : Act} {Q' : Exit → Act → World → Prop} {Kc : Act → World → Prop} {α : Type}
end
end Kd
namespace Kd
section
variable {α : Type} {d : Kd α} {e e' : Nat} {w w1 W : World} {base : Nat} {ok : Nat → Prop} {u v : Value} {xs : List α}
end
end Kd
namespace Kd
section
variable {α : Type} {d : Kd α} {e base g n cap : Nat} {ok okp : Nat → Prop} {W : World} {xs : List α}
end
end Kd
namespace Kd
section
variable {α : Type} {F : Kd α → Kd α} {sz : Nat} {E : List Nat} {hs : ∀ n, (upto F sz E n).sz = sz} {hE : ∀ n q, q ∈ (upto F sz E n).E → q ∈ E}
end
end Kd
namespace Kd
section
variable {P : Program} {ops : Array Oper} {rest : List Oper} {o : Oper} {a : Act} {Q : Exit → Act → World → Prop} {α : Type}
end
end Kd
namespace Kd
section
variable {P : Program} {ops : Array Oper} {rest : List Oper} {o : Oper} {a : Act} {Q : Exit → Act → World → Prop} {α : Type}
end
end Kd
theorem add_add (a : Addr) (i j : Nat) : (a.add i).add j = a.add (i + j) := by
  unfold Addr.add
  by_cases h1 : i = 0 <;> by_cases h2 : j = 0 <;> simp [h1, h2, Nat.add_assoc]
namespace Kd
section
variable {α : Type} {k : Kd α} {w : World} {A : Option Addr} {xs : List α} {m c : Nat}
end
end Kd
section
variable {P : Program}
end
theorem ReadsInt.nil (W : World) (k : IntKind) : ReadsInt W k none ([] : List Int).length [] := ⟨rfl, by simp, fun h => absurd h (Nat.lt_irrefl 0)⟩
theorem ReadsInt.drewN {W : World} {k : IntKind} {A : Option Addr} {n : Nat} {xs : List Int} (h : ReadsInt W k A n xs) (m : Nat) : ReadsInt (W.drewN m) k A n xs := h
theorem below_set {w W : World} {g j : Nat} {v : Value} (h : Below w.heap.size w W) (hg : w.heap.size ≤ g) : Below w.heap.size w (W.setCell ⟨g, j, none⟩ v) := h.setCell hg _
theorem keep_cell {w W : World} {g : Nat} (h : KeepBut w W g none) {a : Addr} {v : Value} (hc : w.cell? a = some v) (hne : a.block ≠ g) : W.cell? a = some v := by
  have := h.2 a.block (World.block_lt_of_cell? w a hc) hne (by simp)
  simpa [World.cell?, this] using hc
theorem add_block (a : Addr) (i : Nat) : (a.add i).block = a.block := by unfold Addr.add; split <;> rfl
theorem ReadsOf.nil {α : Type} (enc : α → Value) (d : α) (W : World) : ReadsOf enc d W none ([] : List α).length [] := ⟨rfl, by simp, fun h => absurd h (Nat.lt_irrefl 0)⟩
theorem ReadsOf.drewN {α : Type} {enc : α → Value} {d : α} {W : World} {A : Option Addr} {n : Nat} {xs : List α} (h : ReadsOf enc d W A n xs) (m : Nat) : ReadsOf enc d (W.drewN m) A n xs := h
theorem ReadsInt.keep {w W : World} {k : IntKind} {A : Option Addr} {n g : Nat} {xs : List Int} (h : ReadsInt w k A n xs) (hk : KeepBut w W g none) (hf : ∀ ad, A = some ad → 0 < n → ad.block ≠ g) : ReadsInt W k A n xs :=
  ⟨h.1, h.2.1, fun hn => by
    obtain ⟨ad, e, hc⟩ := h.2.2 hn
    exact ⟨ad, e, fun j hj => keep_cell hk (hc j hj) (by rw [add_block]; exact hf ad e hn)⟩⟩
theorem ReadsOf.keep {α : Type} {enc : α → Value} {d : α} {w W : World} {A : Option Addr} {n g : Nat} {xs : List α} (h : ReadsOf enc d w A n xs) (hk : KeepBut w W g none) (hf : ∀ ad, A = some ad → 0 < n → ad.block ≠ g) : ReadsOf enc d W A n xs :=
  ⟨h.1, h.2.1, fun hn => by
    obtain ⟨ad, e, hc⟩ := h.2.2 hn
    exact ⟨ad, e, fun j hj => keep_cell hk (hc j hj) (by rw [add_block]; exact hf ad e hn)⟩⟩
theorem blk_put {w : World} {g : Nat} {t : TypeId} {cs cs' : Array Value} (h : w.heap[g]? = some (.cells cs t (0, 0))) (i : Nat) (u : Value) (e : cs.setIfInBounds i u = cs') : (w.setCell ⟨g, i, none⟩ u).heap[g]? = some (.cells cs' t (0, 0)) := e ▸ blk_set h i u
theorem below_drew1 {base : Nat} {w W : World} (h : Below base w W) : Below base w W.drew := h.drew
namespace Kd
section
variable {α β : Type} {d : Kd α} {d' : Kd β} {e e' base base' n : Nat} {ok ok' : Nat → Prop} {w W w1 W1 : World} {v u : Value} {xs : List α} {ys : List β} {A : Option Addr} {c : Nat}
end
section
variable {α : Type} {enc : α → Value} {h1 : ∀ x, (enc x).oneCell' = true} {w W : World} {A : Option Addr} {n g : Nat} {xs : List α}
end
end Kd
namespace Kd
section
variable {α : Type} {d : Kd α} {e base g : Nat} {ok : Nat → Prop} {w w1 : World} {v : Value} {xs : List α} {o : Obj}
end
end Kd
section
variable {P : Program} {ops : Array Oper} {rest : List Oper} {o : Oper} {a : Act} {Q : Exit → Act → World → Prop}
end
namespace Kd
section
variable {α : Type} {enc : α → Value} {h1 : ∀ x, (enc x).oneCell' = true} {e base g n cap : Nat} {ok : Nat → Prop} {W : World} {xs : List α}
end
end Kd
section
variable {P : Program} {ops : Array Oper} {rest : List Oper} {o : Oper} {a : Act} {Q : Exit → Act → World → Prop}
end
namespace Kd
section
variable {α : Type} {enc : α → Value} {h1 : ∀ x, (enc x).oneCell' = true} {e base g n cap : Nat} {ok : Nat → Prop} {W : World} {xs : List α}
end
end Kd
section
variable {P : Program} {ops : Array Oper} {rest : List Oper} {o : Oper} {a : Act} {Q : Exit → Act → World → Prop} {W : World}
end
section
variable {P : Program} {ops : Array Oper} {o : Oper} {a : Act} {Q : Exit → Act → World → Prop} {Kc : Act → World → Prop}
namespace Kd
variable {α : Type}
end Kd
end
section
variable {P : Program} {tmps : Array Value} {w : World}
end
namespace Kd
section
variable {P : Program} {α : Type}
end
section
variable {P : Program} {ops : Array Oper} {rest : List Oper} {o : Oper} {a : Act} {Q : Exit → Act → World → Prop} {Kc : Act → World → Prop} {α : Type}
end
end Kd
end Go.Proofs.YtdfgdpjlbcnkfaaDoorW.PrintWords
namespace Go.Proofs.YtdfgdpjlbcnkfaaDoor.Q
open Go Go.Proofs.YtdfgdpjlbcnkfaaDoorAbs Go.Proofs Go.RowKit Go.Proofs.YtdfgdpjlbcnkfaaDoorW.PrintWords
set_option linter.unusedVariables false
set_option linter.unusedSimpArgs false
theorem u8_of (l : List Int) (h : ∀ x ∈ l, 0 ≤ x ∧ x < 256) : l.map (Value.int .u8) = u8v (l.map fun x => x.toNat.toUInt8) := by
  simp only [u8v, List.map_map]
  refine List.map_congr_left fun x hx => ?_
  obtain ⟨h1, h2⟩ := h x hx
  simp only [Function.comp]
  congr 1
  rw [Nat.toUInt8_eq, UInt8.toNat_ofNat']
  omega
theorem row_cells {α : Type} {d : Kd α} {f : α → Value} {w : World} {A : Option Addr} {l : List α} (hsz : d.sz = 1) (hK : ∀ x c, d.K w x c → c = [f x]) (h : Kd.C d w A l.length l) : 0 < l.length → ∃ ad, A = some ad ∧ ∀ (j : Nat) (v : Value), (l.map f)[j]? = some v → w.cell? (ad.add j) = some v := fun hp => by
  obtain ⟨ad, e, hc⟩ := h.2.2 hp
  refine ⟨ad, e, fun j v hj => ?_⟩
  rw [List.getElem?_map] at hj
  obtain ⟨x, hx, rfl⟩ := Option.map_eq_some_iff.1 hj
  obtain ⟨c, h1, h2, h3⟩ := hc j x hx
  have := h3 0 (f x) (by rw [hK x c h2]; rfl)
  rwa [hsz, Nat.mul_one, Nat.add_zero] at this
theorem row_leaf {w : World} {ρ : Ren} {k : IntKind} {A : Option Addr} {l : List Int} (h : Kd.C (Kd.int k) w A l.length l) (hp : 0 < l.length) : ∃ ad, A = some ad ∧ ∀ (j : Nat) (v : Value), (l.map (Value.int k))[j]? = some v → ∃ v', w.cell? (ad.add j) = some v' ∧ VR ρ v v' := by
  obtain ⟨ad, e, hc⟩ := row_cells (f := Value.int k) rfl (fun x c hk => hk) h hp
  refine ⟨ad, e, fun j v hj => ⟨v, hc j v hj, .leaf _ ?_⟩⟩
  rw [List.getElem?_map] at hj
  obtain ⟨x, _, rfl⟩ := Option.map_eq_some_iff.1 hj
  rfl
end Go.Proofs.YtdfgdpjlbcnkfaaDoor.Q
namespace Go.Proofs.YtdfgdpjlbcnkfaaDoorW.PrintLast
section
variable {P : Program} {ops : Array Oper} {Q : Exit → Act → World → Prop} {md : Region.Mode} {S : World → Prop} {ds : List Nat}
def ListedClosed (md : Region.Mode) (ops : Array Oper) (listed : Array Bool) : Prop :=
  ∀ j oj, ops[j]? = some oj → listed.getD j false = true → ∀ e ∈ oj.after, Region.binds md e = true → listed.getD e.on false = true
theorem ListedClosed.set {listed : Array Bool} {i : Nat} (h : ListedClosed md ops listed) (hi : i ∈ Region.ready md ops listed) : ListedClosed md ops (listed.setIfInBounds i true) := by
  obtain ⟨_, oi, hoi, hall⟩ := mem_ready.1 hi
  intro j oj hj hl e he hb
  by_cases hij : i = j
  · subst hij
    have : oj = oi := Option.some.inj (hj.symm.trans hoi)
    subst this
    exact getD_set_true (hall e he hb)
  · rw [getD_set_ne false hij] at hl
    exact getD_set_true (h j oj hj hl e he hb)
def wpAnyLast (P : Program) (md : Region.Mode) (ops : Array Oper) (Q : Exit → Act → World → Prop) (S : World → Prop) (ds : List Nat) : Nat → Array Bool → Act → World → Prop
  | 0, listed, a, w => Region.ready md ops listed = [] ∧ Q .normal a w
  | fuel + 1, listed, a, w =>
    (Region.ready md ops listed = [] → Q .normal a w) ∧
    ∀ i ∈ Region.ready md ops listed, wpOp P ops Q i (fun a' w' => (i ∉ ds → S w → S w') ∧ wpAnyLast P md ops Q S ds fuel (listed.setIfInBounds i true) a' w') a w
end
section
variable {P : Program} {ops : Array Oper} {Q : Exit → Act → World → Prop} {md : Region.Mode} {S : World → Prop} {ds : List Nat}
def AllReadyL (P : Program) (md : Region.Mode) (ops : Array Oper) (Q : Exit → Act → World → Prop) (S : World → Prop) (ds : List Nat) (fuel : Nat) (listed : Array Bool) (a : Act) (w : World) (rs : List Nat) : Prop :=
  ∀ i ∈ rs, wpOp P ops Q i (fun a' w' => (i ∉ ds → S w → S w') ∧ wpAnyLast P md ops Q S ds fuel (listed.setIfInBounds i true) a' w') a w
theorem AllReadyL.nil {fuel : Nat} {listed : Array Bool} {a : Act} {w : World} : AllReadyL P md ops Q S ds fuel listed a w [] := fun _ h => by cases h
theorem AllReadyL.cons {fuel : Nat} {listed : Array Bool} {a : Act} {w : World} {i : Nat} {o : Oper} {rs : List Nat} (ho : ops[i]? = some o) (hd : i ∉ ds)
    (h : ∀ K' : Act → World → Prop, Shut (∀ a w, S w → (S w → wpAnyLast P md ops Q S ds fuel (listed.setIfInBounds i true) a w) → K' a w) → if Region.wanted o (yielded ops a.tmps) = true then Oper.wp P o a w K' Q else K' (a.put o.dst undef) w)
    (hs : AllReadyL P md ops Q S ds fuel listed a w rs) : AllReadyL P md ops Q S ds fuel listed a w (i :: rs) := fun j hj => by
  rcases List.mem_cons.1 hj with rfl | hj
  · exact wpOp_step ho (fun K' hK => h K' (fun a w hS hW => hK a w ⟨fun _ _ => hS, hW hS⟩))
  · exact hs j hj
end
end Go.Proofs.YtdfgdpjlbcnkfaaDoorW.PrintLast
namespace Go.Proofs.YtdfgdpjlbcnkfaaDoorW.PrintWords
open Go.RowKit
namespace Kd
section
variable {α : Type} {d : Kd α} {e base g o n cap : Nat} {ok okp : Nat → Prop} {w W : World} {v : Value} {xs : List α}
end
section
variable {α : Type} {enc : α → Value} {h1 : ∀ x, (enc x).oneCell' = true} {e base g o n cap : Nat} {ok : Nat → Prop} {W : World} {xs : List α}
end
end Kd
end Go.Proofs.YtdfgdpjlbcnkfaaDoorW.PrintWords
namespace Go.Proofs.YtdfgdpjlbcnkfaaDoorW.PrintWords
open Go.RowKit
namespace Kd
def tag {α : Type} (f : Nat → Nat) (d : Kd α) : Kd (α × Nat) where
  sz := d.sz
  E := d.E
  K := fun w x cs => d.K w x.1 cs
  M := fun w base ok x cs => d.M w base (fun k => ok k ∧ f k = x.2) x.1 cs
  K_len := fun h => d.K_len h
  K_one := fun h => d.K_one h
  K_below := fun hb h => d.K_below hb h
  K_of_M := fun h => d.K_of_M h
  M_mono := fun hok h => d.M_mono (fun k hk => ⟨hok k hk.1, hk.2⟩) h
  M_bound := fun h => d.M_mono (fun _ hk => ⟨⟨hk.1.1, hk.2⟩, hk.1.2⟩) (d.M_bound h)
  M_move := fun hm h => d.M_move (fun k hk => hm k hk.1) h
  M_lower := fun hb h => d.M_lower hb h
def raw (sz : Nat) : Kd (List Value) where
  sz := sz
  E := []
  K := fun _ x cs => cs = x ∧ cs.length = sz ∧ ∀ u ∈ cs, u.oneCell' = true
  M := fun _ _ _ x cs => cs = x ∧ cs.length = sz ∧ ∀ u ∈ cs, u.oneCell' = true
  K_len := fun h => h.2.1
  K_one := fun h => h.2.2
  K_below := fun _ h => h
  K_of_M := fun h => h
  M_mono := fun _ h => h
  M_bound := fun h => h
  M_move := fun _ h => h
  M_lower := fun _ h => h
def S {α : Type} (d : Kd α) (e : Nat) (w : World) (base : Nat) (ok : Nat → Prop) (v : Value) (xs : List α) : Prop := ∃ f, (tag f d).R e w base ok v xs.zipIdx
section
variable {α β : Type} {d : Kd α} {d' : Kd β} {e e' : Nat} {w w1 W : World} {base b : Nat} {ok ok' okv oku : Nat → Prop} {u v : Value} {xs : List α} {ys : List β}
end
section
variable {α β : Type} {d : Kd α} {d' : Kd β} {e e' g : Nat} {w w1 W : World} {base b : Nat} {ok ok' okv oku : Nat → Prop} {u v : Value} {xs : List α} {ys : List β}
end
section
open Classical in
variable {P : Program} {ops : Array Oper} {rest : List Oper} {o : Oper} {a : Act} {Q : Exit → Act → World → Prop} {Kc : Act → World → Prop} {α : Type}
end
def gap {α : Type} (f : Nat → Nat) (d : Kd α) (i : Nat) (c : List Value) : Kd (α × Nat) where
  sz := d.sz
  E := d.E
  K := fun w x cs => (x.2 = i → cs = c ∧ cs.length = d.sz ∧ ∀ u ∈ cs, u.oneCell' = true) ∧ (x.2 ≠ i → d.K w x.1 cs)
  M := fun w base ok x cs => (x.2 = i → cs = c ∧ cs.length = d.sz ∧ ∀ u ∈ cs, u.oneCell' = true) ∧ (x.2 ≠ i → d.M w base (fun k => ok k ∧ f k = x.2) x.1 cs)
  K_len := fun {w x cs} h => by
    by_cases hx : x.2 = i
    · exact (h.1 hx).2.1
    · exact d.K_len (h.2 hx)
  K_one := fun {w x cs} h => by
    by_cases hx : x.2 = i
    · exact (h.1 hx).2.2
    · exact d.K_one (h.2 hx)
  K_below := fun hb h => ⟨h.1, fun hx => d.K_below hb (h.2 hx)⟩
  K_of_M := fun h => ⟨h.1, fun hx => d.K_of_M (h.2 hx)⟩
  M_mono := fun hok h => ⟨h.1, fun hx => d.M_mono (fun k hk => ⟨hok k hk.1, hk.2⟩) (h.2 hx)⟩
  M_bound := fun h => ⟨h.1, fun hx => d.M_mono (fun _ hk => ⟨⟨hk.1.1, hk.2⟩, hk.1.2⟩) (d.M_bound (h.2 hx))⟩
  M_move := fun hm h => ⟨h.1, fun hx => d.M_move (fun k hk => hm k hk.1) (h.2 hx)⟩
  M_lower := fun hb h => ⟨h.1, fun hx => d.M_lower hb (h.2 hx)⟩
def H {α : Type} (d : Kd α) (e : Nat) (w : World) (base : Nat) (ok : Nat → Prop) (v : Value) (xs : List α) (i : Int) (oki : Nat → Prop) (c : List Value) : Prop :=
  (∀ k, oki k → ok k) ∧ ∃ f, (gap f d i.toNat c).R e w base (fun k => ok k ∧ ¬ oki k) v xs.zipIdx
section
variable {α β : Type} {d : Kd α} {e e' g n cap : Nat} {w w1 W : World} {base : Nat} {ok ok' oki okp : Nat → Prop} {u v : Value} {xs : List α} {i : Int} {c : List Value}
open Classical in
end
section
variable {P : Program} {ops : Array Oper} {rest : List Oper} {o : Oper} {a : Act} {Q : Exit → Act → World → Prop} {α : Type}
end
end Kd
end Go.Proofs.YtdfgdpjlbcnkfaaDoorW.PrintWords
namespace Go.Proofs.YtdfgdpjlbcnkfaaDoorW.PrintWords
open Go.RowKit
namespace Kd
section
variable {α : Type} {n : Nat} {d : Kd α} {hs : 0 < d.sz} {w : World} {base : Nat} {ok : Nat → Prop} {xs : List α} {cs : List Value}
end
section
variable {α : Type} {n : Nat} {enc : α → Value} {h1 : ∀ x, (enc x).oneCell' = true} {hs : 0 < (scalar enc h1).sz} {w : World} {base : Nat} {ok : Nat → Prop} {xs : List α} {cs : List Value}
end
end Kd
end Go.Proofs.YtdfgdpjlbcnkfaaDoorW.PrintWords
namespace Go.Proofs.YtdfgdpjlbcnkfaaDoorW.PrintWords
open Go.RowKit
section
variable {P : Program}
end
namespace Kd
section
variable {P : Program} {ops : Array Oper} {rest : List Oper} {o : Oper} {a : Act} {Q : Exit → Act → World → Prop} {Kc : Act → World → Prop} {α : Type}
end
section
variable {α : Type} {d : Kd α} {e : Nat} {w : World} {base : Nat} {ok : Nat → Prop} {v : Value} {xs : List α}
end
section
variable {P : Program} {ops : Array Oper} {rest : List Oper} {o : Oper} {a : Act} {Q : Exit → Act → World → Prop} {Kc : Act → World → Prop} {α : Type}
end
end Kd
end Go.Proofs.YtdfgdpjlbcnkfaaDoorW.PrintWords
namespace Go.Proofs.YtdfgdpjlbcnkfaaDoorW.PrintWords
open Go.RowKit
namespace Kd
structure Heap {α : Type} (d : Kd α) : Prop where
  K : ∀ {w w1 : World} {x : α} {cs : List Value}, (∀ k, k < w.heap.size → w1.heap[k]? = w.heap[k]?) → d.K w x cs → d.K w1 x cs
theorem cell_heap {w w1 : World} (hb : ∀ k, k < w.heap.size → w1.heap[k]? = w.heap[k]?) {a : Addr} {v : Value} (h : w.cell? a = some v) : w1.cell? a = some v := by
  have := hb a.block (World.block_lt_of_cell? w a h)
  simpa [World.cell?, this] using h
theorem Heap.C {α : Type} {d : Kd α} (hd : Heap d) {w w1 : World} {A : Option Addr} {n : Nat} {xs : List α} (hb : ∀ k, k < w.heap.size → w1.heap[k]? = w.heap[k]?) (h : d.C w A n xs) : d.C w1 A n xs :=
  ⟨h.1, h.2.1, fun hn => by
    obtain ⟨ad, e, hc⟩ := h.2.2 hn
    refine ⟨ad, e, fun j p hj => ?_⟩
    obtain ⟨c, hs, hr, hcell⟩ := hc j p hj
    exact ⟨c, hs, hd.K hb hr, fun i u hu => cell_heap hb (hcell i u hu)⟩⟩
section
variable {α : Type} {d : Kd α} {e base g n c : Nat} {ok : Nat → Prop} {w w0 W : World} {A : Option Addr} {xs : List α}
end
end Kd
end Go.Proofs.YtdfgdpjlbcnkfaaDoorW.PrintWords
namespace Go.Proofs.YtdfgdpjlbcnkfaaDoorW.PrintWords
open Go.RowKit
def Kept (w W : World) (S : Nat → Prop) : Prop := w.heap.size ≤ W.heap.size ∧ ∀ i, i < w.heap.size → ¬ S i → W.heap[i]? = w.heap[i]?
section
variable {w W W2 : World} {S S2 S' : Nat → Prop}
theorem Kept.refl (w : World) (S : Nat → Prop) : Kept w w S := ⟨Nat.le_refl _, fun _ _ _ => rfl⟩
theorem Kept.of_below (h : Below w.heap.size w W) (S : Nat → Prop) : Kept w W S := ⟨h.size, fun i hi _ => h.block i hi⟩
theorem Kept.mono (h : Kept w W S) (hs : ∀ k, S k → S' k) : Kept w W S' := ⟨h.1, fun i hi hn => h.2 i hi (fun hk => hn (hs i hk))⟩
theorem Kept.then_ (h : Kept w W S) (k : Kept W W2 S2) (hs : ∀ k, S2 k → S k ∨ w.heap.size ≤ k) : Kept w W2 S :=
  ⟨Nat.le_trans h.1 k.1, fun i hi hn => (k.2 i (Nat.lt_of_lt_of_le hi h.1) (fun h2 => (hs i h2).elim hn (fun h3 => by omega))).trans (h.2 i hi hn)⟩
theorem Kept.below (h : Kept w W S) (hb : Below W.heap.size W W2) : Kept w W2 S := h.then_ (Kept.of_below hb (fun _ => False)) (fun _ hk => hk.elim)
theorem Kept.alloc (h : Kept w W S) (o : Obj) : Kept w (W.alloc o) S := h.below (below_alloc (Below.refl _ _) o)
theorem Kept.drew (h : Kept w W S) : Kept w W.drew S := h
theorem Kept.drewN (h : Kept w W S) (m : Nat) : Kept w (W.drewN m) S := h
theorem Kept.setCell (h : Kept w W S) {p : Addr} (hp : S p.block ∨ w.heap.size ≤ p.block) (u : Value) : Kept w (W.setCell p u) S :=
  h.then_ (S2 := fun k => k = p.block) ⟨by simp [World.setCell], fun i _ hn => Below.heap_setCell W p u i hn⟩ (fun k hk => by rw [hk]; exact hp)
theorem Kept.keep {g : Nat} (h : KeepBut w W g none) (k : Kept W W2 S2) (hs : ∀ k, S2 k → w.heap.size ≤ k) : KeepBut w W2 g none :=
  ⟨Nat.le_trans h.1 k.1, fun i hi hg hr => (k.2 i (Nat.lt_of_lt_of_le hi h.1) (fun h2 => by have := hs i h2; omega)).trans (h.2 i hi hg hr)⟩
end
namespace Kd
section
variable {α : Type} {d : Kd α} {e base n c : Nat} {ok oki S S2 : Nat → Prop} {w w0 W W1 W2 : World} {v : Value} {A : Option Addr} {xs : List α} {i : Int} {cs : List Value}
end
end Kd
end Go.Proofs.YtdfgdpjlbcnkfaaDoorW.PrintWords
namespace Go.Proofs.YtdfgdpjlbcnkfaaDoorW.PrintWords
open Go.RowKit
def Foot (P : World → Prop) (W : World) (ok : Nat → Prop) : Prop := ∀ W' : World, (∀ k, ok k → k < W.heap.size → W'.heap[k]? = W.heap[k]?) → P W'
theorem heap_lt {W W1 : World} {k : Nat} (h : W1.heap[k]? = W.heap[k]?) (hlt : k < W.heap.size) : k < W1.heap.size := by
  rw [Array.getElem?_eq_getElem hlt] at h
  exact (Array.getElem?_eq_some_iff.1 h).1
namespace Foot
variable {P Q : World → Prop} {W W1 : World} {ok ok' : Nat → Prop}
theorem mono (h : Foot P W ok) (hok : ∀ k, ok k → ok' k) : Foot P W ok' := fun W' hW => h W' (fun k hk hlt => hW k (hok k hk) hlt)
theorem bound (h : Foot P W ok) : Foot P W (fun k => ok k ∧ k < W.heap.size) := fun W' hW => h W' (fun k hk hlt => hW k ⟨hk, hlt⟩ hlt)
theorem step (h : Foot P W ok) (hm : ∀ k, ok k → k < W.heap.size → W1.heap[k]? = W.heap[k]?) : Foot P W1 ok := fun W' hW => h W' (fun k hk hlt => (hW k hk (heap_lt (hm k hk hlt) hlt)).trans (hm k hk hlt))
theorem imp (h : Foot P W ok) (hi : ∀ W', P W' → Q W') : Foot Q W ok := fun W' hW => hi W' (h W' hW)
theorem old (h : Foot P W ok) (hb : Below W.heap.size W W1) : Foot P W1 (fun k => ok k ∧ k < W.heap.size) := (h.bound).step (fun k _ hlt => hb.block k hlt)
end Foot
namespace Kd
def F {α : Type} (d : Kd α) (W : World) (ok : Nat → Prop) (A : Option Addr) (n : Nat) (xs : List α) : Prop := Foot (fun W => d.C W A n xs) W ok
def FK {α : Type} (d : Kd α) (W : World) (ok : Nat → Prop) (x : α) (c : List Value) : Prop := Foot (fun W => d.K W x c) W ok
section
variable {α β : Type} {d : Kd α} {e base n n' cc g N : Nat} {ok ok' okp S : Nat → Prop} {w w0 w1 W W1 : World} {A A' : Option Addr} {u v v1 : Value} {xs : List α} {xs' : List β} {d' : Kd β} {x : α} {c : List Value}
end
end Kd
end Go.Proofs.YtdfgdpjlbcnkfaaDoorW.PrintWords
namespace Go.Proofs.YtdfgdpjlbcnkfaaDoorW.PrintWords
open Go.RowKit
namespace Kd
section
variable {α : Type} {d : Kd α} {e base n cc g : Nat} {ok ok' okp S : Nat → Prop} {w w1 W W1 : World} {A : Option Addr} {u v v1 : Value} {xs : List α} {x : α} {c : List Value}
def N {α : Type} (d : Kd α) (e : Nat) (w : World) (base : Nat) (ok : Nat → Prop) (v : Value) (xs : List α) : Prop :=
  (∀ k, v.ownBlock = some k → ok k) ∧ ∃ rows : List (List Value), rows.length = xs.length ∧ (raw d.sz).R e w base (fun k => some k = v.ownBlock) v rows ∧ ∀ (j : Nat) (x : α) (c : List Value), xs[j]? = some x → rows[j]? = some c → FK d w (fun k => ok k ∧ some k ≠ v.ownBlock) x c
end
end Kd
end Go.Proofs.YtdfgdpjlbcnkfaaDoorW.PrintWords
namespace Go.Proofs.YtdfgdpjlbcnkfaaDoorW.PrintWords
open Go.RowKit
namespace Kd
section
variable {α : Type} {d : Kd α} {e base n cap g : Nat} {ok ok' okp : Nat → Prop} {w w1 W : World} {v v1 : Value} {xs ys : List α}
end
section
variable {P : Program} {ops : Array Oper} {rest : List Oper} {o : Oper} {a : Act} {Q : Exit → Act → World → Prop} {Kc : Act → World → Prop} {α : Type}
end
end Kd
end Go.Proofs.YtdfgdpjlbcnkfaaDoorW.PrintWords
namespace Go.Proofs.YtdfgdpjlbcnkfaaDoorW.PrintMore
open Go.RowKit Go.Proofs.YtdfgdpjlbcnkfaaDoorW.PrintWords
namespace Kd
open Go.Proofs.YtdfgdpjlbcnkfaaDoorW.PrintWords.Kd
end Kd
namespace Kd
open Go.Proofs.YtdfgdpjlbcnkfaaDoorW.PrintWords.Kd
section
variable {α : Type} {d : Kd α} {e base g N : Nat} {ok : Nat → Prop} {W w1 : World} {u v : Value} {xs : List α}
end
end Kd
end Go.Proofs.YtdfgdpjlbcnkfaaDoorW.PrintMore
namespace Go.Proofs.YtdfgdpjlbcnkfaaDoorW.PrintWords
open Go.RowKit
section
variable {P : Program} {ops : Array Oper} {rest : List Oper} {o : Oper} {a : Act} {Q : Exit → Act → World → Prop} {W : World}
end
def mx (a b : Int) : Int := if a < b then b else a
def shl (k : IntKind) (x y : Int) : Int := k.wrap (x * 2 ^ min y.toNat k.bits)
def shr (k : IntKind) (x y : Int) : Int := x / 2 ^ min y.toNat k.bits
namespace Kd
section
variable {α : Type} {d : Kd α} {e base : Nat} {ok : Nat → Prop} {W w1 : World} {v : Value} {xs : List α}
end
section
variable {α : Type} {d : Kd α} {e base g n cap : Nat} {ok oki okp : Nat → Prop} {W : World} {xs : List α} {i : Int} {c : List Value}
end
section
variable {α : Type} {d : Kd α} {e base b b' g N : Nat} {ok ok1 : Nat → Prop} {W W2 w1 : World} {u v : Value} {xs ys : List α} {S : Nat → Prop}
end
end Kd
end Go.Proofs.YtdfgdpjlbcnkfaaDoorW.PrintWords
namespace Go.Proofs.YtdfgdpjlbcnkfaaDoorW.PrintWords
open Go.RowKit
namespace Kd
section
variable {α β : Type} {d : Kd α} {e base base' n m c g N' lo hi : Nat} {ok ok' S : Nat → Prop} {w W w1 : World} {A : Option Addr} {ad : Addr} {u v v1 : Value} {xs : List α}
end
end Kd
end Go.Proofs.YtdfgdpjlbcnkfaaDoorW.PrintWords
namespace Go.Proofs.YtdfgdpjlbcnkfaaDoor.Q
open Go.RowKit Go.Proofs.YtdfgdpjlbcnkfaaDoorW.PrintWords Go.Proofs.YtdfgdpjlbcnkfaaDoorW.PrintLast Go.Proofs.YtdfgdpjlbcnkfaaDoorW.PrintMore
set_option linter.unusedVariables false
set_option linter.unusedSimpArgs false
theorem errW_none : errW none = .nilIface := rfl
theorem errW_some (c : Int) : errW (some c) = .iface 58 (.int .i64 c) := rfl
def GlobE (w : World) : Prop := w.cell? ⟨0, 0, none⟩ = some (.iface 102 (.agg #[.pointer (some ⟨7, 24, none⟩)]))
theorem GlobE.below {w w1 : World} (h : GlobE w) (hb : Below w.heap.size w w1) : GlobE w1 := pw_cell_below hb h
def GlobM (w : World) : Prop := ∃ m : Int, w.cell? ⟨1, 0, none⟩ = some (.int .i64 m)
theorem GlobM.below {w w1 : World} (h : GlobM w) (hb : Below w.heap.size w w1) : GlobM w1 := by
  obtain ⟨m, hm⟩ := h
  exact ⟨m, pw_cell_below hb hm⟩
section
open Go.Extern.Stop Go.Stop Go.Extern
theorem as_valueOfP (t : Addr) (w : World) : (ReflectliteValue.unpack (.iface 69 (.pointer (some t)))).run Tryd.prog w
    = .ok (.agg #[.pointer (some ⟨7, 69, none⟩), .pointer (some ⟨w.heap.size, 0, none⟩), .int .u64 150]) (w.alloc (.cells #[.pointer (some t)] 69)) := by kernel_rfl
theorem as_typeP (a : Addr) (w : World) : (ReflectliteValue.methodAny (ReflectliteValue.valueError "reflectlite.Value.Type" 0) (fun t _ _ _ => ReflectliteType.toType t) #[.agg #[.pointer (some ⟨7, 69, none⟩), .pointer (some a), .int .u64 150]]).run Tryd.prog w
    = .ok (.iface 102 (.agg #[.pointer (some ⟨7, 69, none⟩)])) w := by kernel_rfl
theorem as_methodKind (h : Value) (w : World) : (Go.method 284 102 (.agg #[h]) "Kind").run Tryd.prog w = .ok (121, h) w := by kernel_rfl
theorem as_kindP (w : World) : ((ReflectliteType.abiMethod fun t => (fun a : Nat => Value.int IntKind.u8 (a : Int)) <$> Rtype.kind t) #[.pointer (some ⟨7, 69, none⟩)]).run Tryd.prog w = .ok (.int .u8 22) w := by kernel_rfl
theorem as_kindE (w : World) : ((ReflectliteType.abiMethod fun t => (fun a : Nat => Value.int IntKind.u8 (a : Int)) <$> Rtype.kind t) #[.pointer (some ⟨7, 58, none⟩)]).run Tryd.prog w = .ok (.int .u8 2) w := by kernel_rfl
theorem as_rlm (z : Sem Value) (f : TypeId → Addr → Nat → Nat → Sem Value) (v : Value) :
    ReflectliteValue.method z f #[v] = (do match ← ReflectliteValue.parts v with | none => z | some (t, a, fl) => f t a fl (fl % 32)) := rfl
theorem as_partsP (a : Addr) (w : World) : (ReflectliteValue.parts (.agg #[.pointer (some ⟨7, 69, none⟩), .pointer (some a), .int .u64 150])).run Tryd.prog w = .ok (some (69, a, 150)) w := by kernel_rfl
theorem as_isNilP (a p : Addr) (W : World) (ha : W.cell? a = some (.pointer (some p))) :
    (ReflectliteValue.method (ReflectliteValue.valueError "reflectlite.Value.IsNil" 0) ReflectliteValue.isNil #[.agg #[.pointer (some ⟨7, 69, none⟩), .pointer (some a), .int .u64 150]]).run Tryd.prog W = .ok (.bool false) W := by
  rw [as_rlm]
  simp only [Sem.run_bind, as_partsP, Result.andThen]
  simp [ReflectliteValue.isNil, loadVar, isAgg, underlying, Tryd.underlying69, ha, Result.andThen]
theorem as_methodElem (h : Value) (w : World) : (Go.method 284 102 (.agg #[h]) "Elem").run Tryd.prog w = .ok (131, .agg #[h]) w := by kernel_rfl
theorem as_methodImplements (h : Value) (w : World) : (Go.method 284 102 (.agg #[h]) "Implements").run Tryd.prog w = .ok (132, .agg #[h]) w := by kernel_rfl
theorem as_methodAssignableTo (h : Value) (w : World) : (Go.method 284 102 (.agg #[h]) "AssignableTo").run Tryd.prog w = .ok (129, .agg #[h]) w := by kernel_rfl
theorem as_elemP (w : World) : (ReflectliteType.method ReflectliteType.elem #[.agg #[.pointer (some ⟨7, 69, none⟩)]]).run Tryd.prog w = .ok (.iface 102 (.agg #[.pointer (some ⟨7, 58, none⟩)])) w := by kernel_rfl
theorem as_implementsE (w : World) : (ReflectliteType.relation "Implements" ReflectliteType.implements_ #[.agg #[.pointer (some ⟨7, 58, none⟩)], .iface 102 (.agg #[.pointer (some ⟨7, 24, none⟩)])]).run Tryd.prog w = .ok (.bool true) w := by kernel_rfl
theorem as_typeOfE (v : Value) (w : World) : (ReflectliteType.typeOf #[.iface 58 v]).run Tryd.prog w = .ok (.iface 102 (.agg #[.pointer (some ⟨7, 58, none⟩)])) w := by kernel_rfl
theorem as_assignableE (w : World) : (ReflectliteType.relation "AssignableTo" ReflectliteType.assignableTo #[.agg #[.pointer (some ⟨7, 58, none⟩)], .iface 102 (.agg #[.pointer (some ⟨7, 58, none⟩)])]).run Tryd.prog w = .ok (.bool true) w := by kernel_rfl
theorem as_valueOfE (c : Int) (w : World) : (ReflectliteValue.unpack (.iface 58 (.int .i64 c))).run Tryd.prog w
    = .ok (.agg #[.pointer (some ⟨7, 58, none⟩), .pointer (some ⟨w.heap.size, 0, none⟩), .int .u64 130]) (w.alloc (.cells #[.int .i64 c] 58)) := by kernel_rfl
theorem as_elemOfP (w : World) : (Rtype.elem? 69).run Tryd.prog w = .ok (some 58) w := by kernel_rfl
theorem as_mkE (p : Addr) (w : World) : (ReflectliteValue.mk 58 p ReflectliteValue.flagAddr).run Tryd.prog w = .ok (.agg #[.pointer (some ⟨7, 58, none⟩), .pointer (some p), .int .u64 386]) w := by kernel_rfl
theorem as_elemVP (a p : Addr) (W : World) (ha : W.cell? a = some (.pointer (some p))) :
    (ReflectliteValue.method (ReflectliteValue.valueError "reflectlite.Value.Elem" 0) ReflectliteValue.elem #[.agg #[.pointer (some ⟨7, 69, none⟩), .pointer (some a), .int .u64 150]]).run Tryd.prog W
      = .ok (.agg #[.pointer (some ⟨7, 58, none⟩), .pointer (some p), .int .u64 386]) W := by
  rw [as_rlm]
  simp only [Sem.run_bind, as_partsP, Result.andThen]
  simp [ReflectliteValue.elem, loadVar, isAgg, underlying, Tryd.underlying69, ha, Result.andThen, as_elemOfP, as_mkE]
theorem as_rls (v x : Value) : ReflectliteValue.set #[v, x] = (do
    let (some (dst, a, fl), some (src, b, _)) := (← ReflectliteValue.parts v, ← ReflectliteValue.parts x)
      | unsupported (.noEntry "extern/(internal/reflectlite.Value).Set.zeroValue")
    if fl / ReflectliteValue.flagAddr % 2 == 0 then unsupported (.noEntry "extern/(internal/reflectlite.Value).Set.unaddressable")
    let val ← loadVar src b
    if ← Rtype.directlyAssignable dst src then storeVar dst a val
    else if ← Rtype.implements dst src then
      if (← Rtype.kind src) == 20 then
        match val with
        | .nilIface => unsupported (.noEntry "extern/reflectlite: a nil value of one interface type handed on as a value of another")
        | _ => storeVar dst a val
      else storeVar dst a (.iface src val)
    else panicString ("reflectlite.Set: value of type " ++ (← Rtype.spelt src) ++ " is not assignable to type " ++ (← Rtype.spelt dst))
    pure (.tuple #[])) := rfl
theorem as_partsEa (a : Addr) (w : World) : (ReflectliteValue.parts (.agg #[.pointer (some ⟨7, 58, none⟩), .pointer (some a), .int .u64 386])).run Tryd.prog w = .ok (some (58, a, 386)) w := by kernel_rfl
theorem as_partsE (a : Addr) (w : World) : (ReflectliteValue.parts (.agg #[.pointer (some ⟨7, 58, none⟩), .pointer (some a), .int .u64 130])).run Tryd.prog w = .ok (some (58, a, 130)) w := by kernel_rfl
theorem as_directE (w : World) : (Rtype.directlyAssignable 58 58).run Tryd.prog w = .ok true w := by kernel_rfl
theorem as_setE (ta b : Addr) (c : Int) (old : Value) (W : World) (hb : W.cell? b = some (.int .i64 c)) (ht : W.cell? ta = some old) (hf : W.frozen? ta = false) :
    (ReflectliteValue.set #[.agg #[.pointer (some ⟨7, 58, none⟩), .pointer (some ta), .int .u64 386], .agg #[.pointer (some ⟨7, 58, none⟩), .pointer (some b), .int .u64 130]]).run Tryd.prog W
      = .ok (.tuple #[]) (W.setCell ta (.int .i64 c)) := by
  rw [as_rls]
  simp only [Sem.run_bind, as_partsEa, as_partsE, Result.andThen]
  simp [ReflectliteValue.flagAddr, loadVar, isAgg, underlying, Tryd.underlying58, hb, Result.andThen, as_directE, storeVar, Value.cells, storeCells, Addr.add]
  rw [run_store Tryd.prog W ta _ _ (by rfl)]
  simp [ht, hf]
set_option maxHeartbeats 4000000 in
theorem as_hit (c : Int) (t : Addr) (old : Value) (w : World) (hg : w.cell? ⟨0, 0, none⟩ = some (.iface 102 (.agg #[.pointer (some ⟨7, 24, none⟩)]))) (ht0 : w.cell? t = some old) (hf0 : w.frozen? t = false) :
    Calls Tryd.prog 35 #[.iface 58 (.int .i64 c), .iface 69 (.pointer (some t))] w fun ev w' => ev = .returned (.bool true) ∧ w' = ((((w.alloc (.cells #[.pointer (some t)] 69)).alloc (.cells #[.pointer (some ⟨7, 69, none⟩), .pointer (some ⟨w.heap.size, 0, none⟩), .int .u64 150] 83)).alloc (.cells #[.pointer (some ⟨7, 69, none⟩), .pointer (some ⟨w.heap.size, 0, none⟩), .int .u64 150] 83)).alloc (.cells #[.int .i64 c] 58)).setCell t (.int .i64 c) := by
  have h6 := @run_callFunc_extern Tryd.prog 47 _ (fun args => ReflectliteValue.unpack (args.getD 0 (.tuple #[]))) Tryd.func47 (by kernel_rfl) (by kernel_rfl) (by kernel_rfl) (by kernel_rfl)
  have h7 := @run_callFunc_extern Tryd.prog 48 _ (ReflectliteValue.methodAny (ReflectliteValue.valueError "reflectlite.Value.Type" 0) (fun t _ _ _ => ReflectliteType.toType t)) Tryd.func48 (by kernel_rfl) (by kernel_rfl) (by kernel_rfl) (by kernel_rfl)
  have h8 := @run_callFunc_extern Tryd.prog 49 _ (ReflectliteValue.method (ReflectliteValue.valueError "reflectlite.Value.IsNil" 0) ReflectliteValue.isNil) Tryd.func49 (by kernel_rfl) (by kernel_rfl) (by kernel_rfl) (by kernel_rfl)
  have h27 := @run_callFunc_extern Tryd.prog 121 _ (ReflectliteType.abiMethod fun t => do pure (.int .u8 (← Rtype.kind t))) Tryd.func121 (by kernel_rfl) (by kernel_rfl) (by kernel_rfl) (by kernel_rfl)
  have h37 := @run_callFunc_extern Tryd.prog 131 _ (ReflectliteType.method ReflectliteType.elem) Tryd.func131 (by kernel_rfl) (by kernel_rfl) (by kernel_rfl) (by kernel_rfl)
  have h38 := @run_callFunc_extern Tryd.prog 132 _ (ReflectliteType.relation "Implements" ReflectliteType.implements_) Tryd.func132 (by kernel_rfl) (by kernel_rfl) (by kernel_rfl) (by kernel_rfl)
  have h10 := @run_callFunc_extern Tryd.prog 61 _ ReflectliteType.typeOf Tryd.func61 (by kernel_rfl) (by kernel_rfl) (by kernel_rfl) (by kernel_rfl)
  have h35 := @run_callFunc_extern Tryd.prog 129 _ (ReflectliteType.relation "AssignableTo" ReflectliteType.assignableTo) Tryd.func129 (by kernel_rfl) (by kernel_rfl) (by kernel_rfl) (by kernel_rfl)
  have h11 := @run_callFunc_extern Tryd.prog 62 _ (ReflectliteValue.method (ReflectliteValue.valueError "reflectlite.Value.Elem" 0) ReflectliteValue.elem) Tryd.func62 (by kernel_rfl) (by kernel_rfl) (by kernel_rfl) (by kernel_rfl)
  have h12 := @run_callFunc_extern Tryd.prog 63 _ ReflectliteValue.set Tryd.func63 (by kernel_rfl) (by kernel_rfl) (by kernel_rfl) (by kernel_rfl)
  have tO := as_typeOfE
  have mA := as_methodAssignableTo
  have a25 := as_assignableE
  have v25 := as_valueOfE
  have f6 := as_valueOfP
  have f7 := as_typeP
  have mK := as_methodKind
  have mE := as_methodElem
  have mI := as_methodImplements
  have k27 := as_kindP
  have k25 := as_kindE
  have e27 := as_elemP
  have i25 := as_implementsE
  have n8 := as_isNilP ⟨w.heap.size, 0, none⟩ t ((w.alloc (.cells #[.pointer (some t)] 69)).alloc (.cells #[.pointer (some ⟨7, 69, none⟩), .pointer (some ⟨w.heap.size, 0, none⟩), .int .u64 150] 83)) (by simp)
  have hlt : 0 < w.heap.size := World.block_lt_of_cell? w ⟨0, 0, none⟩ hg
  have hg2 : ((w.alloc (.cells #[.pointer (some t)] 69)).alloc (.cells #[.pointer (some ⟨7, 69, none⟩), .pointer (some ⟨w.heap.size, 0, none⟩), .int .u64 150] 83)).cell? ⟨0, 0, none⟩ = some (.iface 102 (.agg #[.pointer (some ⟨7, 24, none⟩)])) := by
    rw [World.cell?_alloc_lt _ _ ⟨0, 0, none⟩ (by simp <;> omega), World.cell?_alloc_lt _ _ ⟨0, 0, none⟩ hlt]; exact hg
  have htl : t.block < w.heap.size := World.block_lt_of_cell? w t ht0
  have el := as_elemVP ⟨w.heap.size, 0, none⟩ t (((w.alloc (.cells #[.pointer (some t)] 69)).alloc (.cells #[.pointer (some ⟨7, 69, none⟩), .pointer (some ⟨w.heap.size, 0, none⟩), .int .u64 150] 83)).alloc (.cells #[.pointer (some ⟨7, 69, none⟩), .pointer (some ⟨w.heap.size, 0, none⟩), .int .u64 150] 83)) (by rw [World.cell?_alloc_lt _ _ ⟨w.heap.size, 0, none⟩ (by simp; omega)]; simp)
  have st := as_setE t ⟨w.heap.size + 1 + 1 + 1, 0, none⟩ c old ((((w.alloc (.cells #[.pointer (some t)] 69)).alloc (.cells #[.pointer (some ⟨7, 69, none⟩), .pointer (some ⟨w.heap.size, 0, none⟩), .int .u64 150] 83)).alloc (.cells #[.pointer (some ⟨7, 69, none⟩), .pointer (some ⟨w.heap.size, 0, none⟩), .int .u64 150] 83)).alloc (.cells #[.int .i64 c] 58))
    (by rw [World.cell?_alloc_at _ _ _ _ (by simp)]; rfl)
    (by rw [World.cell?_alloc_lt _ _ t (by simp; omega), World.cell?_alloc_lt _ _ t (by simp; omega), World.cell?_alloc_lt _ _ t (by simp; omega), World.cell?_alloc_lt _ _ t htl]; exact ht0)
    (by rw [World.frozen?_alloc_old _ _ t (by simp; omega), World.frozen?_alloc_old _ _ t (by simp; omega), World.frozen?_alloc_old _ _ t (by simp; omega), World.frozen?_alloc_old _ _ t (Nat.ne_of_lt htl)]; exact hf0)
  go_enter Tryd.func35, Tryd.ntmps35
  go_wp2
  refine wp_loop_rounds 1 ?_
  rw [rounds_succ]
  go_wp2
  go_ret
  exact ⟨rfl, rfl⟩
end
def turnstilelaw13_num.f (a0 : Option Int) : Option Int := some (a0.getD 0)
set_option maxHeartbeats 4000000 in
theorem turnstilelaw13_num.calls (a0 : Option Int) (r : Int) (w : World) (hG : GlobE w) (h : turnstilelaw13_num.f a0 = some r) :
    Calls Tryd.prog 22 #[errW a0] w fun e w' => e = .returned (.int .i64 r) ∧ Below w.heap.size w w' := by
  obtain rfl := Option.some.inj h
  cases a0 with
  | none =>
    go_enter Tryd.func22, Tryd.ntmps22
    simp only [errW_none]
    go_wp2
    go_ret
    exact ⟨rfl, by repeat (first | exact Below.refl _ _ | apply below_alloc | apply pw_below_drewN | apply below_drew1)⟩
  | some c =>
    have hg := (hG.below (below_alloc (Below.refl w.heap.size w) (.cells #[.int .i64 0] 58)))
    have ht : (w.alloc (.cells #[.int .i64 0] 58)).cell? ⟨w.heap.size, 0, none⟩ = some (.int .i64 0) := by simp
    have hf : (w.alloc (.cells #[.int .i64 0] 58)).frozen? ⟨w.heap.size, 0, none⟩ = false := by simp
    have hc := as_hit c ⟨w.heap.size, 0, none⟩ (.int .i64 0) _ hg ht hf
    clear hg ht hf hG
    go_enter Tryd.func22, Tryd.ntmps22
    simp only [errW_some]
    go_wp2_with (go_at_call 35; refine hc.mono ?_; rintro e w' ⟨rfl, rfl⟩)
    go_ret
    exact ⟨rfl, by repeat (first | exact Below.refl _ _ | apply below_alloc | apply pw_below_drewN | apply below_drew1)⟩
def dch (m : Nat) : UInt8 := if m < 10 then (48 + m).toUInt8 else (87 + m).toUInt8
def dgs (b : Nat) : Nat → Nat → List UInt8 → List UInt8
  | 0, _, acc => acc
  | f + 1, n, acc => if n / b = 0 then dch (n % b) :: acc else dgs b f (n / b) (dch (n % b) :: acc)
def chars_digits.f (a0 a1 : Int) : Option ByteArray := if 0 ≤ a0 ∧ a0 < 18446744073709551616 ∧ 10 ≤ a1 ∧ a1 ≤ 16 then some ⟨(dgs a1.toNat 20 a0.toNat []).toArray⟩ else none
def cellsD (i : Nat) (l : List UInt8) : Array Value := (List.replicate i (Value.int .u8 0) ++ l.map (fun c => Value.int .u8 (c.toNat : Int))).toArray
theorem cellsD_zero : (#[Value.int .u8 0, .int .u8 0, .int .u8 0, .int .u8 0, .int .u8 0, .int .u8 0, .int .u8 0, .int .u8 0, .int .u8 0, .int .u8 0, .int .u8 0, .int .u8 0, .int .u8 0, .int .u8 0, .int .u8 0, .int .u8 0, .int .u8 0, .int .u8 0, .int .u8 0, .int .u8 0] : Array Value) = cellsD 20 [] := rfl
theorem cellsD_get (i : Nat) (l : List UInt8) (j : Nat) (h : j < i) : (cellsD i l)[j]? = some (.int .u8 0) := by
  simp [cellsD, List.getElem?_append, h]
theorem cellsD_tail (i : Nat) (l : List UInt8) (j : Nat) (h : j < l.length) : (cellsD i l)[i + j]? = some (.int .u8 (l[j].toNat : Int)) := by
  simp [cellsD, List.getElem?_append, h]
theorem cellsD_set (i : Nat) (l : List UInt8) (c : UInt8) : (cellsD (i + 1) l).setIfInBounds i (.int .u8 (c.toNat : Int)) = cellsD i (c :: l) := by
  simp [cellsD, List.replicate_succ', List.set_append]
theorem dig_lt (n b : Nat) (i : Nat) (hb : 10 ≤ b) (h : n < b ^ (i + 1)) : n / b < b ^ i := by
  rw [Nat.div_lt_iff_lt_mul (by omega)]
  rwa [Nat.pow_succ] at h
theorem dig_top (n b : Nat) (hb : 10 ≤ b) (h : n < 18446744073709551616) : n < b ^ 20 := Nat.lt_of_lt_of_le h (Nat.le_trans (by decide) (Nat.pow_le_pow_left hb 20))
def dgR (b i n : Nat) (l : List UInt8) : List UInt8 := if i = 20 ∨ 0 < n then dgs b i n l else l
theorem dgR_step (b i n : Nat) (l : List UInt8) (hi : i < 20) (h : i + 1 = 20 ∨ 0 < n) : dgR b i (n / b) (dch (n % b) :: l) = dgR b (i + 1) n l := by
  unfold dgR
  rw [if_pos h]
  conv => rhs; unfold dgs
  by_cases hz : n / b = 0
  · rw [if_pos hz, if_neg (by omega)]
  · rw [if_neg hz, if_pos (.inr (Nat.pos_of_ne_zero hz))]
theorem dstr_get (j : Nat) (h : j < 16) : ((⟨#[48, 49, 50, 51, 52, 53, 54, 55, 56, 57, 97, 98, 99, 100, 101, 102]⟩ : ByteArray)[j]'h) = dch j := by
  have : j = 0 ∨ j = 1 ∨ j = 2 ∨ j = 3 ∨ j = 4 ∨ j = 5 ∨ j = 6 ∨ j = 7 ∨ j = 8 ∨ j = 9 ∨ j = 10 ∨ j = 11 ∨ j = 12 ∨ j = 13 ∨ j = 14 ∨ j = 15 := by omega
  rcases this with rfl | rfl | rfl | rfl | rfl | rfl | rfl | rfl | rfl | rfl | rfl | rfl | rfl | rfl | rfl | rfl <;> rfl
set_option maxHeartbeats 4000000 in
set_option maxRecDepth 100000 in
theorem chars_digits.calls (a0 a1 : Int) (r : ByteArray) (w : World) (h : chars_digits.f a0 a1 = some r) :
    Calls Tryd.prog 65 #[.int .u64 a0, .int .u64 a1] w fun e w' => e = .returned (.string r) ∧ Below w.heap.size w w' := by
  unfold chars_digits.f at h
  split at h
  case isFalse => cases h
  rename_i hb
  obtain ⟨h0, h1, hb0, hb1⟩ := hb
  obtain ⟨n, rfl⟩ := Int.eq_ofNat_of_zero_le h0
  obtain ⟨b, rfl⟩ := Int.eq_ofNat_of_zero_le (show (0 : Int) ≤ a1 by omega)
  have hr := Aside0.mk (Option.some.inj h)
  clear h
  have HN := Aside0.mk (show n < 18446744073709551616 by omega)
  clear h1 h0
  go_enter Tryd.func65, Tryd.ntmps65
  go_wp2
  go_loopw [0, 6] (fun vn vi wr => ∃ (m i : Nat) (l : List UInt8), vn = .int .u64 m ∧ vi = .int .i64 i ∧ i ≤ 20 ∧ Aside0 (m < 18446744073709551616) ∧ Aside0 (l.length + i = 20) ∧ Aside0 (dgR b i m l = dgs b 20 n []) ∧ Aside0 (m < b ^ i) ∧ Aside0 (wr.heap[w.heap.size]? = some (.cells (cellsD i l) 126 (0, 0))) ∧ Aside0 (Below w.heap.size w wr)) (fun _ vi _ => (intOf vi).toNat)
  case atStart => exact ⟨n, 20, [], rfl, rfl, by omega, HN, ⟨rfl⟩, ⟨by simp [dgR]⟩, ⟨dig_top n b (by omega) HN.out⟩, ⟨by rw [← cellsD_zero]; exact blk_new _ _⟩, ⟨below_alloc (Below.refl _ _) _⟩⟩
  case round =>
    obtain ⟨m, i, l, rfl, rfl, hi, Hm, HL, HR, HM, HC, HB⟩ := hrel
    by_cases hgo : i = 20 ∨ 0 < m
    · have hi1 : 1 ≤ i := by
        rcases hgo with rfl | hgo
        · omega
        · rcases Nat.eq_zero_or_pos i with rfl | hp
          · have := HM.out; simp at this; omega
          · omega
      have HG := Aside0.mk hgo
      clear hgo
      have hix : ((i : Int) - 1).toNat = i - 1 := by omega
      have hmb : (m : Int) % (b : Int) < 16 := by have := Int.emod_lt_of_pos (m : Int) (show (0 : Int) < b by omega); omega
      have hmn : m % b < 16 := by have := Nat.mod_lt m (show 0 < b by omega); omega
      have hw : IntKind.u64.wrap ((m : Int) / (b : Int)) = ((m / b : Nat) : Int) := by
        have h1 := Hm.out
        have h2 : m / b ≤ m := Nat.div_le_self m b
        rw [← Int.natCast_ediv]
        generalize m / b = q at h2 ⊢
        exact IntWalk.u64_in _ (by omega)
      have hc : wr.cell? ⟨w.heap.size, i - 1, none⟩ = some (.int .u8 0) := by rw [blk_cell HC.out (i - 1)]; exact cellsD_get i l (i - 1) (by omega)
      have hf : wr.frozen? ⟨w.heap.size, i - 1, none⟩ = false := blk_frozen HC.out (i - 1)
      have hfin : ∃ (m_1 i_1 : Nat) (l' : List UInt8), Value.int IntKind.u64 ((m / b : Nat) : Int) = Value.int IntKind.u64 ↑m_1 ∧ Value.int IntKind.i64 ((i : Int) - 1) = Value.int IntKind.i64 ↑i_1 ∧ i_1 ≤ 20 ∧ Aside0 (m_1 < 18446744073709551616) ∧ Aside0 (l'.length + i_1 = 20) ∧ Aside0 (dgR b i_1 m_1 l' = dgs b 20 n []) ∧ Aside0 (m_1 < b ^ i_1) ∧
          Aside0 ((wr.setCell ⟨w.heap.size, i - 1, none⟩ (.int .u8 ((⟨#[48, 49, 50, 51, 52, 53, 54, 55, 56, 57, 97, 98, 99, 100, 101, 102]⟩ : ByteArray)[m % b].toNat : Int))).heap[w.heap.size]? = some (.cells (cellsD i_1 l') 126)) ∧ Aside0 (Below w.heap.size w (wr.setCell ⟨w.heap.size, i - 1, none⟩ (.int .u8 ((⟨#[48, 49, 50, 51, 52, 53, 54, 55, 56, 57, 97, 98, 99, 100, 101, 102]⟩ : ByteArray)[m % b].toNat : Int)))) := by
        obtain ⟨i, rfl⟩ : ∃ j, i = j + 1 := ⟨i - 1, by omega⟩
        refine ⟨m / b, i, dch (m % b) :: l, rfl, by congr 1; omega, by omega, ⟨Nat.lt_of_le_of_lt (Nat.div_le_self _ _) Hm.out⟩, ⟨by have := HL.out; simp; omega⟩, ⟨by rw [dgR_step b i m l (by omega) HG.out]; exact HR.out⟩, ⟨dig_lt m b i (by omega) HM.out⟩, ⟨?_⟩, ⟨below_set HB.out (Nat.le_refl _)⟩⟩
        refine blk_put HC.out i _ ?_
        rw [← cellsD_set]
        congr 2
        rw [dstr_get (m % b) hmn]
      have HF := Aside0.mk hfin
      clear hfin
      by_cases h20 : i = 20
      · have t1 : ((i : Int) == 20) = true := beq_iff_eq.2 (by omega)
        clear h20
        go_wp2
        exact ⟨HF.out, by simp [intOf]; omega⟩
      · have t1 : ((i : Int) == 20) = false := beq_eq_false_iff_ne.2 (by omega)
        have t2 : decide (0 < m) = true := decide_eq_true (by have := HG.out; omega)
        clear h20
        go_wp2
        exact ⟨HF.out, by simp [intOf]; omega⟩
    · have t1 : ((i : Int) == 20) = false := beq_eq_false_iff_ne.2 (by omega)
      have t2 : decide (0 < m) = false := decide_eq_false (by omega)
      have HG := Aside0.mk hgo
      clear hgo
      have hal : Tryd.prog.arrayLen 126 = 20 := by kernel_rfl
      have hne : ¬ (20 = i) := by have := HG.out; omega
      have hsl : ∀ W : World, (Instr.sliceAt 126 (.pointer (some ⟨w.heap.size, 0, none⟩)) (some (.int .i64 (i : Int))) none none).run Tryd.prog W = .ok (.slice (some ⟨w.heap.size, i, none⟩) (20 - i) (20 - i)) W := fun W => by
        have := run_sliceAt_array_l (P := Tryd.prog) (w := W) (t := 126) (a := ⟨w.heap.size, 0, none⟩) (by kernel_rfl) .i64 (i : Int) (by omega) (by rw [hal]; omega)
        rw [this, hal]
        have hsz : (sizeOf (Tryd.prog.elem 126)).run Tryd.prog W = .ok 1 W := by kernel_rfl
        rw [hsz]
        simp [Result.andThen, slicedAt, hne, Addr.add]
        omega
      have hcv : (convert 22 9 (.slice (some ⟨w.heap.size, i, none⟩) (20 - i) (20 - i))).run Tryd.prog wr = .ok (.string ⟨l.toArray⟩) wr := by
        have := run_convert_bytes_back (P := Tryd.prog) wr 22 9 5 ⟨w.heap.size, i, none⟩ (20 - i) l (by kernel_rfl) (by kernel_rfl) (by kernel_rfl) (fun j hj => by
          rw [show (⟨w.heap.size, i, none⟩ : Addr).add j = ⟨w.heap.size, i + j, none⟩ from by simp [Addr.add]]
          rw [blk_cell HC.out (i + j)]
          exact cellsD_tail i l j hj)
        rw [show l.length = 20 - i by have := HL.out; omega] at this
        exact this
      have hres : Value.string ⟨l.toArray⟩ = Value.string r := by
        rw [← hr.out]
        have := HR.out
        rw [dgR, if_neg HG.out] at this
        rw [this]
        simp
      have HRES := Aside0.mk hres
      clear hal hne hres
      go_wp2
      go_ret
      exact ⟨congrArg (fun v => Ending.returned v) HRES.out, HB.out⟩
end Go.Proofs.YtdfgdpjlbcnkfaaDoor.Q
namespace Go.Proofs.YtdfgdpjlbcnkfaaDoor.Q
open Go Go.Proofs.YtdfgdpjlbcnkfaaDoorAbs Go.Proofs Go.RowKit
set_option linter.unusedVariables false
set_option linter.unusedSimpArgs false
theorem rel_GE {ρ : Ren} {S : St} {w : World} (h : Rel Tryd.prog ρ S w) (hb : S.get 0 = some geB) : GlobE w := by
  obtain ⟨u, h1, h2⟩ := rel_glob h (g := 0) (Nat.zero_le _) hb rfl
  obtain ⟨u1, rfl, i2⟩ := h2.iface_inv
  obtain ⟨ys, rfl, i3⟩ := i2.agg_inv
  obtain ⟨y, ys', hy, i4, h3⟩ := i3.uncons
  obtain rfl := h3.of_nil
  obtain ⟨L, loc, A, h4, h5, h6, h7, rfl⟩ := i4.ptr_inv
  cases h4
  have h8 := h.glob 7 (by rw [nglob]; exact Nat.le_refl _)
  have h9 := h8.symm.trans h5
  cases h9
  have h8' : (A : Int) = 24 := by simpa using h7
  have : A = 24 := by omega
  subst this
  have : ys = #[.pointer (some ⟨7, 24, none⟩)] := Array.ext' hy
  subst this
  exact h1
def errV : Value → Option (Option Int)
  | .nilIface => some none
  | .iface 58 (.int .i64 c) => some (some c)
  | _ => none
theorem errV_eq {v : Value} {r : Option Int} (h : errV v = some r) : v = errW r := by
  unfold errV at h
  split at h <;> first | (cases h; rfl) | cases h
theorem errV_errW (r : Option Int) : errV (errW r) = some r := by cases r <;> rfl
theorem errW_leaf (r : Option Int) : leaf (errW r) = true := by cases r <;> rfl
open Classical in
noncomputable def pNum13 (_ : Nat) (xs : Array Value) (S : St) : Option Value := match xs with
  | ⟨[v]⟩ => if S.get 0 = some geB then (errV v).map fun r => .int .i64 (numF r) else none
  | _ => none
theorem still_num13 (k : Nat) : Still Tryd.prog 22 (pNum13 k) := ⟨fun xs S v h ρ w ys hrel hxs => by
  unfold pNum13 at h
  split at h
  case h_2 => cases h
  rename_i u
  split at h
  case isFalse => cases h
  rename_i hg
  obtain ⟨r, h1, rfl⟩ := Option.map_eq_some_iff.1 h
  obtain rfl := errV_eq h1
  obtain ⟨y, ys', hy, h4, h5⟩ := hxs.uncons
  obtain rfl := h5.of_nil
  obtain rfl := h4.leaf_eq (errW_leaf r)
  obtain rfl : ys = #[errW r] := Array.ext' hy
  have hn : turnstilelaw13_num.f r = some (numF r) := by cases r <;> rfl
  exact (turnstilelaw13_num.calls r _ w (rel_GE hrel hg) hn).mono fun e w' ⟨h1, h2⟩ => ⟨_, h1, VR.scalar rfl, h2⟩⟩
def pDig (_ : Nat) (xs : Array Value) (_ : St) : Option Value := match xs with
  | ⟨[.int .u64 n, .int .u64 10]⟩ => (chars_digits.f n 10).map .string
  | _ => none
theorem still_dig (k : Nat) : Still Tryd.prog 65 (pDig k) := ⟨fun xs S v h ρ w ys hrel hxs => by
  unfold pDig at h
  split at h
  case h_2 => cases h
  rename_i n
  obtain ⟨r, h1, rfl⟩ := Option.map_eq_some_iff.1 h
  obtain ⟨y, ys', hy, h4, h5⟩ := hxs.uncons
  obtain ⟨z, zs', rfl, h6, h7⟩ := h5.uncons
  obtain rfl := h7.of_nil
  obtain rfl := h4.leaf_eq rfl
  obtain rfl := h6.leaf_eq rfl
  obtain rfl : ys = #[.int .u64 n, .int .u64 10] := Array.ext' hy
  exact (chars_digits.calls n 10 r w h1).mono fun e w' ⟨h1, h2⟩ => ⟨_, h1, VR.scalar rfl, h2⟩⟩
def pSure (_ : Nat) (xs : Array Value) (_ : St) : Option Value := if xs = #[] then some (.bool true) else none
theorem still_sure (k : Nat) : Still Tryd.prog 11 (pSure k) := ⟨fun xs S v h ρ w ys hrel hxs => by
  unfold pSure at h
  split at h
  case isFalse => cases h
  rename_i hc
  subst hc
  cases h
  obtain ⟨S1, hk⟩ := isTrue_some sure_run
  have hy : ys = #[] := by
    have := hxs.1
    simp at this
    exact Array.eq_empty_of_size_eq_zero this.symm
  subst hy
  refine (calls_of_run (u := .bool true) prims0_sim mixed rfl (by rw [nglob]; exact hk) hrel (fun g cs _ hg => by cases hg)).mono ?_
  rintro e w' ⟨rfl, hb⟩
  exact ⟨_, rfl, VR.scalar rfl, hb⟩⟩
noncomputable def primL2 : List (FuncId × (Nat → Array Value → St → Option Value)) := [(68, pIdxS), (60, pIdxB), (88, pIdx1), (55, pTrim), (14, pWorks), (22, pNum13), (65, pDig), (11, pSure)]
noncomputable def prims2 : Prims := stills primL2
theorem prims2_sim : PrimSim Tryd.prog prims2 := stills_sim fun x hx k => by
  simp only [primL2, List.mem_cons, List.not_mem_nil, or_false] at hx
  rcases hx with rfl | rfl | rfl | rfl | rfl | rfl | rfl | rfl
  · exact still_idxS k
  · exact still_idxB k
  · exact still_idx1 k
  · exact still_trim k
  · exact still_works k
  · exact still_num13 k
  · exact still_dig k
  · exact still_sure k
theorem prims2_ok : HB prims2 where
  no := fun f hf k => by
    simp only [isPrim, Bool.or_eq_false_iff, beq_eq_false_iff_ne, ne_eq] at hf
    obtain ⟨⟨⟨⟨⟨⟨⟨h1, h2⟩, h3⟩, h4⟩, h5⟩, h6⟩, h7⟩, h8⟩ := hf
    have : primL2.find? (fun x => x.1 == f) = none := by
      rw [List.find?_eq_none]
      intro x hx
      simp only [primL2, List.mem_cons, List.not_mem_nil, or_false] at hx
      rcases hx with rfl | rfl | rfl | rfl | rfl | rfl | rfl | rfl <;> simp <;> omega
    simp only [prims2, stills, this]
  idxS := fun s c S Q hq => C_prim ⟨0, fun k' _ => ⟨_, rfl, rfl⟩⟩ hq
  idxB := fun S v n xs c Q hO hq => by
    rcases hO.2.2 with ⟨rfl, h0⟩ | ⟨b, m, rfl, h1, h2, h3, h4⟩
    · have : xs = [] := by have := hO.1; subst h0; simpa [u8v] using this
      subst this
      exact C_prim ⟨0, fun k' _ => ⟨_, rfl, rfl⟩⟩ hq
    · have hc := cellsAt_own hO (u8v_leaf xs) Nat.one_pos
      have hne : u8v xs ≠ [] := fun e => by have := hO.1; rw [e] at this; simp at this; omega
      refine C_prim ⟨0, fun k' _ => ⟨_, rfl, ?_⟩⟩ hq
      have : pIdxB k' #[.slice (some ⟨b, 0, some (u8v xs).length⟩) n (UNK + 1), .int .u8 c] S = some (.int .i64 (Lib.indexByte xs c.toNat.toUInt8)) := by
        unfold pIdxB
        simp only [hc, Option.bind_some, if_neg hne, nums8_u8v, Option.map_some, bytes_u8v]
      exact congrArg (Option.map fun x => (x, S)) this
  idx1 := fun S v n xs b2 m c Q hO hn hb hm hq => by
    have hc := cellsAt_own hO (u8v_leaf xs) Nat.one_pos
    have hne : u8v xs ≠ [] := fun e => by have := hO.1; rw [e] at this; simp at this; omega
    have hs : cellsAt 1 S (.slice (some ⟨b2, 0, some 1⟩) 1 1) = some [.int .u8 c] := by
      simp only [cellsAt]
      rw [if_neg (by decide)]
      have : aread S ⟨b2, 0, some 1⟩ (1 * 1) = some [.int .u8 c] := by
        unfold aread
        simp only [hb]
        rw [if_pos ⟨fun _ => ⟨hm, by simp⟩, by simp⟩]
        rfl
      simp [this, leaf]
    refine C_prim ⟨0, fun k' _ => ⟨_, rfl, ?_⟩⟩ hq
    have : pIdx1 k' #[v, .slice (some ⟨b2, 0, some 1⟩) 1 1] S = some (.int .i64 (Lib.indexByte xs c.toNat.toUInt8)) := by
      unfold pIdx1
      simp only [hc, hs, Option.bind_some, if_neg hne, nums8_u8v, Option.map_some, bytes_u8v]
    exact congrArg (Option.map fun x => (x, S)) this
  trim := fun S s Q hs hq => by
    refine C_prim ⟨0, fun k' _ => ⟨_, rfl, ?_⟩⟩ hq
    have : pTrim k' #[.string s, .string ⟨#[32, 9]⟩] S = some (.string (trimB s)) := by
      unfold pTrim
      exact if_pos ⟨hs, rfl⟩
    exact congrArg (Option.map fun x => (x, S)) this
  works := fun S Q h6 hq => by
    refine C_prim ⟨0, fun k' _ => ⟨_, rfl, ?_⟩⟩ hq
    have : pWorks k' #[] S = some (.bool true) := by
      unfold pWorks
      rw [if_pos ⟨rfl, h6⟩]
    exact congrArg (Option.map fun x => (x, S)) this
  digits := fun S n Q h0 h1 hq => by
    refine C_prim (v := .string ⟨(dgs 10 20 n.toNat []).toArray⟩) ⟨0, fun k' _ => ⟨_, rfl, ?_⟩⟩ (hq _)
    have : pDig k' #[.int .u64 n, .int .u64 10] S = some (.string ⟨(dgs 10 20 n.toNat []).toArray⟩) := by
      unfold pDig
      simp [chars_digits.f, h0, h1]
    exact congrArg (Option.map fun x => (x, S)) this
  num13 := fun S e Q hg hq => by
    refine C_prim ⟨0, fun k' _ => ⟨_, rfl, ?_⟩⟩ hq
    have : pNum13 k' #[errW e] S = some (.int .i64 (numF e)) := by
      unfold pNum13
      simp only [if_pos hg, errV_errW, Option.map_some]
    exact congrArg (Option.map fun x => (x, S)) this
  sure := fun S Q hq => by
    refine C_prim ⟨0, fun k' _ => ⟨_, rfl, ?_⟩⟩ hq
    have : pSure k' #[] S = some (.bool true) := rfl
    exact congrArg (Option.map fun x => (x, S)) this
def glE : Nat → Option (List Value) := fun | 0 => some [.iface 102 (.agg #[.pointer (some ⟨7, 24, some 0⟩)])] | _ => none
theorem startE {w : World} (hE : GlobE w) (hG : 7 < w.heap.size) : Go.Proofs.YtdfgdpjlbcnkfaaDoorAbs.Start Tryd.prog (Ren.start 7) (St.start 7 glE) w := by
  have st0 : Go.Proofs.YtdfgdpjlbcnkfaaDoorAbs.Start Tryd.prog (Ren.start Tryd.prog.globals.size) (St.start Tryd.prog.globals.size glE) w := by
    refine start0 glE (by rw [nglob]; exact hG) fun g cs hg hgl j v hj => ?_
    unfold glE at hgl
    split at hgl
    · cases hgl
      match j, hj with
      | 0, hj =>
        cases hj
        refine ⟨_, hE, ?_⟩
        refine .iface _ _ _ (VR.agg' (VRL.cons ?_ (VRL.nil _)))
        exact .ptr 7 24 0 24 ⟨7, 0, 0, 0, 0, false⟩ (by rw [nglob]; rfl) (Nat.zero_le _) (by decide)
    · cases hgl
  rwa [nglob] at st0
end Go.Proofs.YtdfgdpjlbcnkfaaDoor.Q
