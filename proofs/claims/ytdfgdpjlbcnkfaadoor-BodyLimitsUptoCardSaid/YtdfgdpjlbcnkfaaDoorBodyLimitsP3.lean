/- What the law BodyLimits needs, part 3: the runner over a plain memory, words, the functions that it reaches, each by its own contract; for the inputs that each theorem names. -/
import Derived.Test.YtdfgdpjlbcnkfaaDoorBodyLimitsP2
import Derived.Laws.StructEq
import Derived.Shelf.Strings.Trim
import Derived.Shelf.Small.Utf8
import Derived.Shelf.Small.Strs
import Derived.Shelf.Strings.Search1
import Derived.Shelf.Strings.Runes
import Derived.Shelf.Strings.AsciiSet
import Derived.Shelf.Unicode.DecodeSlow
import Derived.Shelf.Bytes.SlIndexSmall
import Derived.Shelf.Bytes.SlIndexAt
import Derived.Shelf.Bytes.SlSearch0
import Derived.Shelf.Bytes.SlSearch1
import Derived.Shelf.Bytes.SlSearch2
import Derived.Shelf.Bytes.SlIndexWhole
import Derived.Shelf.LaysM
import Derived.Ground.SlbCloneProg
import Derived.Shelf.Bytes.SlClone
import Derived.Ground.SlbtProg
import Derived.Shelf.Bytes.SlCut
import Derived.Shelf.Bytes.Small
import Derived.Shelf.Bytes.IndexByte
import Derived.Test.YtdfgdpjlbcnkfaaDoorProg
import Derived.Shelf.Strings.SlTrimAscii
import Derived.Test.YtdfgdpjlbcnkfaaDoorRows
namespace Go.Proofs.YtdfgdpjlbcnkfaaDoor.Q
open Go Go.Proofs.YtdfgdpjlbcnkfaaDoorAbs Go.Proofs
set_option linter.unusedVariables false
set_option linter.unusedSimpArgs false
set_option maxRecDepth 100000
set_option maxHeartbeats 4000000
attribute [local irreducible] Go.Proofs.YtdfgdpjlbcnkfaaDoorAbs.O Go.Proofs.YtdfgdpjlbcnkfaaDoorAbs.W Go.Proofs.YtdfgdpjlbcnkfaaDoorAbs.C Go.Proofs.YtdfgdpjlbcnkfaaDoorAbs.OK Go.Proofs.YtdfgdpjlbcnkfaaDoorAbs.OKF Go.Proofs.YtdfgdpjlbcnkfaaDoorAbs.OKT Go.Proofs.YtdfgdpjlbcnkfaaDoorAbs.then_ Go.Proofs.YtdfgdpjlbcnkfaaDoorAbs.inBlock_ Go.Proofs.YtdfgdpjlbcnkfaaDoorAbs.bodyQ Go.Proofs.YtdfgdpjlbcnkfaaDoorAbs.Cont
section
variable {I : Prims} {S : St} {Q : Value → St → Prop}
theorem u8v_one (l : List UInt8) : (u8v l).all oneC = true := by
  rw [List.all_eq_true]; intro x hx; simp only [u8v, List.mem_map] at hx; obtain ⟨_, _, rfl⟩ := hx; rfl
def FeedJ (S : St) (b : Nat) (r : PRd) (tv lv v : Value) (xs : List UInt8) (n : Nat) (e : Env) (S1 : St) : Prop :=
  ∃ (k : Nat) (r1 : PRd) (out : List UInt8) (tv1 lv1 ov : Value) (m1 : Nat), e.get 0 = .pointer (some ⟨b, 0, some 11⟩) ∧ e.get 1 = v ∧ e.get 8 = ov ∧ e.get 9 = .int .i64 k ∧ k ≤ xs.length ∧ n = xs.length - k ∧ Rd S1 b r1 tv1 lv1 m1 ∧ RInv r1 ∧ Mv S S1 b tv lv tv1 lv1 ∧
    Own 5 1 S1 ov out.length (u8v out) ∧ (∀ i, blkOf ov = some i → S.next ≤ i) ∧ Apart ov b tv1 lv1 ∧ out.length ≤ k ∧ feedF r xs = (k + (feedF r1 (xs.drop k)).1, out ++ (feedF r1 (xs.drop k)).2.1, (feedF r1 (xs.drop k)).2.2)
theorem feed_stop (r : PRd) (xs : List UInt8) (h : xs = [] ∨ r.err ≠ none ∨ r.state = 8) : feedF r xs = (0, [], r) := by
  cases xs with
  | nil => rfl
  | cons c l =>
    unfold feedF
    rw [if_pos (by rcases h with q | q; cases q; exact q)]
theorem Feed_C (h : HI I) {b m : Nat} {r : PRd} {tv lv v : Value} {xs : List UInt8} (hR : Rd S b r tv lv m) (hi : RInv r) (hx : Sl S v xs) (hv : Apart v b tv lv) (hvn : ∀ i, blkOf v = some i → i < S.next) (hxn : xs.length ≤ 1099511627776)
    (hQ : ∀ S' tv' lv' m' ov, Rd S' b (feedF r xs).2.2 tv' lv' m' → RInv (feedF r xs).2.2 → Mv S S' b tv lv tv' lv' → Own 5 1 S' ov (feedF r xs).2.1.length (u8v (feedF r xs).2.1) → (∀ i, blkOf ov = some i → S.next ≤ i) → Apart ov b tv' lv' →
      Q (.tuple #[.int .i64 (feedF r xs).1, ov, .bool (decide ((feedF r xs).2.2.state = 8)), errW (feedF r xs).2.2.err]) S') :
    C Tryd.prog I 15 #[.pointer (some ⟨b, 0, some 11⟩), v] S Q := by
  refine C_body (rs := [.tmp 4, .tmp 5, .tmp 6, .tmp 7]) (h.no 15 (by decide)) Tryd.func15 rfl rfl ok15 ?_
  obtain ⟨u22, sz5, u5, u9, u3, u29, u34, u33, sz3, u4, u41, sz66, u46, sz28, u47, u52, sz22, sz62, sz24, sz59, u59, sz60, u60, sz41, sz58, u58, sz73, sz34, sz4, sz9, sz83, u88, sz86, u112, sz118, u118, u2, sz126, u126, u21, sz130, u130, u139, u140, sz141, u141, u145, u148, sz147, u154, u155⟩ := UF
  repeat' (first
    | (with_reducible first | refine W_pushC fun K hK => ?_ | refine W_blockI ?_ | refine W_scopeI ?_ | refine W_labelI ?_ | refine W_skipI ?_ | refine W_retI ?_ | refine W_exitI ?_ | refine then_normalI ?_ | refine then_retI ?_ | refine then_exitI ?_ | refine inBlock_normalI ?_ | refine inBlock_retI ?_ | refine inBlock_exitI ?_ | refine inBlock_exitN (by decide) ?_)
    | ((with_reducible first | refine bodyQ_normal0 ?_ | refine bodyQ_normal1 ?_ | refine bodyQ_normal2 ?_ | refine bodyQ_normal3 ?_ | refine bodyQ_normal4 ?_ | refine bodyQ_ret0 ?_ | refine bodyQ_ret1 ?_ | refine bodyQ_ret2 ?_ | refine bodyQ_ret3 ?_ | refine bodyQ_ret4 ?_); (try simp only [EVB, Nat.reduceEqDiff, reduceIte]))
    | (with_reducible refine Cont.use (by assumption) ?_)
    | (with_reducible first | refine hcA ?_ | refine hcB ?_)
    | ((with_reducible first | refine W_condG fun cA cB hcA hcB => ?_ | refine W_regionI ?_ | show O _ _ _ _ _ _ _ _ | show OK _ _ _ _ _ _ _ _ _ | show OKF _ _ _ _ _ _ _ _ _ _ | show OKT _ _ _ _ _ _ _ _ _ _ _ _ | show _ ∧ _ | show CG _ _ _ | show CB _ _ _); simp (disch := first | ((with_reducible show isStop _ = false); rfl) | ((with_reducible show isP _ = true); rfl) | ((with_reducible show (isStop _ || isP _) = false); rfl) | assumption | (simp only [GSB, Nat.reduceEqDiff, reduceIte]; done) | omega | (with_reducible decide) | (simp only [DSB, Go.Proofs.YtdfgdpjlbcnkfaaDoorAbs.oneC, Nat.reduceAdd, Nat.reduceLeDiff] <;> omega)) only [↓DN, ↓reduceIte, UP, CGB, Int.reduceEq, Int.reduceLT, Int.reduceLE, Nat.reduceEqDiff, Nat.reduceAdd, Nat.reduceMul, Nat.reduceSub, Int.reduceToNat, Nat.reduceLeDiff, PF, isStop, isP, goInt, beq_self_eq_true, decide_true, decide_false, Int.toNat_natCast, nn_eq, nn_ne])
    | ((with_reducible refine CB_intro (fun ht => hcA ?_) (fun ht => hcB ?_)) <;> (first | (simp only [Bool.true_eq_false, Bool.false_eq_true] at ht; done) | ((try simp only [Bool.not_eq_true', Bool.not_eq_false'] at ht); (try simp only [ht]); (try simp only [HTN] at ht); (try (exfalso; omega)))))
    | ((with_reducible refine W_regionI ?_); simp only [List.append_eq, List.cons_append, List.nil_append])
    | (with_reducible refine O_splitG fun cA cB hcA hcB => ?_))
  refine W_loop (FeedJ S b r tv lv v xs) xs.length ⟨0, r, [], tv, lv, .slice none 0 0, m, by simp only [EVB, Nat.reduceEqDiff, reduceIte], by simp only [EVB, Nat.reduceEqDiff, reduceIte], by simp only [EVB, Nat.reduceEqDiff, reduceIte], by simp only [EVB, Nat.reduceEqDiff, reduceIte]; rfl, Nat.zero_le _, by simp, hR, hi, Mv.refl, Own.nil _ _ _, by simp [blkOf], fun i hi => by simp [blkOf] at hi, by simp, by simp⟩ ?_
  rintro n e S1 ⟨k, r1, out, tv1, lv1, ov, m1, e0, e1, e8, e9, hk, hn, hR1, hi1, hM, hO, hon, hap, hol, hF⟩
  have hx1 := sl_mv hx hv hM
  have hv1 := hv.mv hM hvn
  obtain ⟨va, vc, rfl, hv0, hvv⟩ := hx1
  have hb := hR1.cell; have hm := hR1.hm; have hnb := hR1.hn
  simp only [CR.as, CR.cells] at hb
  obtain ⟨oa, oc, rfl⟩ := own_slice hO
  have wk : IntKind.i64.wrap ((xs.length : Int) - (k : Int)) = ((xs.length - k : Nat) : Int) := by rw [Go.Proofs.YtdfgdpjlbcnkfaaDoorAbs.wp64 (by omega) (by omega)]; omega
  by_cases hkl : k < xs.length
  case neg =>
    have hz := feed_stop r1 (xs.drop k) (.inl (List.drop_eq_nil_of_le (by omega)))
    rw [hz] at hF
    rw [hF] at hQ
    simp only [Nat.add_zero, List.append_nil] at hQ
    have hd : decide ((k : Int) < (xs.length : Int)) = false := decide_eq_false (by omega)
    repeat' (first
    | (with_reducible first | refine W_pushC fun K hK => ?_ | refine W_blockI ?_ | refine W_scopeI ?_ | refine W_labelI ?_ | refine W_skipI ?_ | refine W_retI ?_ | refine W_exitI ?_ | refine then_normalI ?_ | refine then_retI ?_ | refine then_exitI ?_ | refine inBlock_normalI ?_ | refine inBlock_retI ?_ | refine inBlock_exitI ?_ | refine inBlock_exitN (by decide) ?_)
    | ((with_reducible first | refine bodyQ_normal0 ?_ | refine bodyQ_normal1 ?_ | refine bodyQ_normal2 ?_ | refine bodyQ_normal3 ?_ | refine bodyQ_normal4 ?_ | refine bodyQ_ret0 ?_ | refine bodyQ_ret1 ?_ | refine bodyQ_ret2 ?_ | refine bodyQ_ret3 ?_ | refine bodyQ_ret4 ?_); (try simp only [EVB, Nat.reduceEqDiff, reduceIte]))
    | (with_reducible refine Cont.use (by assumption) ?_)
    | (with_reducible first | refine hcA ?_ | refine hcB ?_)
    | ((with_reducible show W _ _ (.region _ _ true) _ _ _); first | (refine W_drawn (fl := [true, true, true, true, true, true, true, true, true, true, true, true, true, true, true]) (by kernel_rfl) ?_))
    | ((with_reducible first | refine W_condG fun cA cB hcA hcB => ?_ | refine W_regionI ?_ | show O _ _ _ _ _ _ _ _ | show OK _ _ _ _ _ _ _ _ _ | show OKF _ _ _ _ _ _ _ _ _ _ | show OKT _ _ _ _ _ _ _ _ _ _ _ _ | show _ ∧ _ | show CG _ _ _ | show CB _ _ _); simp (disch := first | ((with_reducible show isStop _ = false); rfl) | ((with_reducible show isP _ = true); rfl) | ((with_reducible show (isStop _ || isP _) = false); rfl) | assumption | (simp only [GSB, Nat.reduceEqDiff, reduceIte]; done) | omega | (with_reducible decide) | (simp only [DSB, Go.Proofs.YtdfgdpjlbcnkfaaDoorAbs.oneC, Nat.reduceAdd, Nat.reduceLeDiff] <;> omega)) only [↓DN, ↓reduceIte, UP, CGB, Int.reduceEq, Int.reduceLT, Int.reduceLE, Nat.reduceEqDiff, Nat.reduceAdd, Nat.reduceMul, Nat.reduceSub, Int.reduceToNat, Nat.reduceLeDiff, PF, isStop, isP, goInt, beq_self_eq_true, decide_true, decide_false, Int.toNat_natCast, nn_eq, nn_ne, hb, e0, e1, e8, e9, hd])
    | ((with_reducible refine CB_intro (fun ht => hcA ?_) (fun ht => hcB ?_)) <;> (first | (simp only [Bool.true_eq_false, Bool.false_eq_true] at ht; done) | ((try simp only [Bool.not_eq_true', Bool.not_eq_false'] at ht); (try simp only [ht]); (try simp only [HTN] at ht); (try (exfalso; omega)))))
    | ((with_reducible refine W_regionI ?_); simp only [List.append_eq, List.cons_append, List.nil_append])
    | (with_reducible refine O_splitG fun cA cB hcA hcB => ?_)
    | (exact hQ _ _ _ _ _ hR1 hi1 hM hO hon hap))
  have hd : decide ((k : Int) < (xs.length : Int)) = true := decide_eq_true (by omega)
  rcases he : r1.err with _ | ec
  case some =>
    have hz := feed_stop r1 (xs.drop k) (.inr (.inl (by simp [he])))
    rw [hz] at hF
    rw [hF] at hQ
    simp only [Nat.add_zero, List.append_nil] at hQ
    rw [he] at hb hQ
    simp only [errW] at hb hQ
    repeat' (first
    | (with_reducible first | refine W_pushC fun K hK => ?_ | refine W_blockI ?_ | refine W_scopeI ?_ | refine W_labelI ?_ | refine W_skipI ?_ | refine W_retI ?_ | refine W_exitI ?_ | refine then_normalI ?_ | refine then_retI ?_ | refine then_exitI ?_ | refine inBlock_normalI ?_ | refine inBlock_retI ?_ | refine inBlock_exitI ?_ | refine inBlock_exitN (by decide) ?_)
    | ((with_reducible first | refine bodyQ_normal0 ?_ | refine bodyQ_normal1 ?_ | refine bodyQ_normal2 ?_ | refine bodyQ_normal3 ?_ | refine bodyQ_normal4 ?_ | refine bodyQ_ret0 ?_ | refine bodyQ_ret1 ?_ | refine bodyQ_ret2 ?_ | refine bodyQ_ret3 ?_ | refine bodyQ_ret4 ?_); (try simp only [EVB, Nat.reduceEqDiff, reduceIte]))
    | (with_reducible refine Cont.use (by assumption) ?_)
    | (with_reducible first | refine hcA ?_ | refine hcB ?_)
    | ((with_reducible show W _ _ (.region _ _ true) _ _ _); first | (refine W_drawn (fl := [true, true, true, true, true, true, true, true, true, true, true, true, true, true, true]) (by kernel_rfl) ?_))
    | ((with_reducible first | refine W_condG fun cA cB hcA hcB => ?_ | refine W_regionI ?_ | show O _ _ _ _ _ _ _ _ | show OK _ _ _ _ _ _ _ _ _ | show OKF _ _ _ _ _ _ _ _ _ _ | show OKT _ _ _ _ _ _ _ _ _ _ _ _ | show _ ∧ _ | show CG _ _ _ | show CB _ _ _); simp (disch := first | ((with_reducible show isStop _ = false); rfl) | ((with_reducible show isP _ = true); rfl) | ((with_reducible show (isStop _ || isP _) = false); rfl) | assumption | (simp only [GSB, Nat.reduceEqDiff, reduceIte]; done) | omega | (with_reducible decide) | (simp only [DSB, Go.Proofs.YtdfgdpjlbcnkfaaDoorAbs.oneC, Nat.reduceAdd, Nat.reduceLeDiff] <;> omega)) only [↓DN, ↓reduceIte, UP, CGB, Int.reduceEq, Int.reduceLT, Int.reduceLE, Nat.reduceEqDiff, Nat.reduceAdd, Nat.reduceMul, Nat.reduceSub, Int.reduceToNat, Nat.reduceLeDiff, PF, isStop, isP, goInt, beq_self_eq_true, decide_true, decide_false, Int.toNat_natCast, nn_eq, nn_ne, hb, e0, e1, e8, e9, hd])
    | ((with_reducible refine CB_intro (fun ht => hcA ?_) (fun ht => hcB ?_)) <;> (first | (simp only [Bool.true_eq_false, Bool.false_eq_true] at ht; done) | ((try simp only [Bool.not_eq_true', Bool.not_eq_false'] at ht); (try simp only [ht]); (try simp only [HTN] at ht); (try (exfalso; omega)))))
    | ((with_reducible refine W_regionI ?_); simp only [List.append_eq, List.cons_append, List.nil_append])
    | (with_reducible refine O_splitG fun cA cB hcA hcB => ?_)
    | (exact hQ _ _ _ _ _ hR1 hi1 hM hO hon hap))
  rw [he] at hb
  simp only [errW] at hb
  by_cases s8 : r1.state = 8
  · have hz := feed_stop r1 (xs.drop k) (.inr (.inr s8))
    rw [hz] at hF
    rw [hF] at hQ
    simp only [Nat.add_zero, List.append_nil] at hQ
    rw [he, s8] at hQ
    simp only [errW] at hQ
    rw [s8] at hb
    repeat' (first
    | (with_reducible first | refine W_pushC fun K hK => ?_ | refine W_blockI ?_ | refine W_scopeI ?_ | refine W_labelI ?_ | refine W_skipI ?_ | refine W_retI ?_ | refine W_exitI ?_ | refine then_normalI ?_ | refine then_retI ?_ | refine then_exitI ?_ | refine inBlock_normalI ?_ | refine inBlock_retI ?_ | refine inBlock_exitI ?_ | refine inBlock_exitN (by decide) ?_)
    | ((with_reducible first | refine bodyQ_normal0 ?_ | refine bodyQ_normal1 ?_ | refine bodyQ_normal2 ?_ | refine bodyQ_normal3 ?_ | refine bodyQ_normal4 ?_ | refine bodyQ_ret0 ?_ | refine bodyQ_ret1 ?_ | refine bodyQ_ret2 ?_ | refine bodyQ_ret3 ?_ | refine bodyQ_ret4 ?_); (try simp only [EVB, Nat.reduceEqDiff, reduceIte]))
    | (with_reducible refine Cont.use (by assumption) ?_)
    | (with_reducible first | refine hcA ?_ | refine hcB ?_)
    | ((with_reducible show W _ _ (.region _ _ true) _ _ _); first | (refine W_drawn (fl := [true, true, true, true, true, true, true, true, true, true, true, true, true, true, true]) (by kernel_rfl) ?_))
    | ((with_reducible first | refine W_condG fun cA cB hcA hcB => ?_ | refine W_regionI ?_ | show O _ _ _ _ _ _ _ _ | show OK _ _ _ _ _ _ _ _ _ | show OKF _ _ _ _ _ _ _ _ _ _ | show OKT _ _ _ _ _ _ _ _ _ _ _ _ | show _ ∧ _ | show CG _ _ _ | show CB _ _ _); simp (disch := first | ((with_reducible show isStop _ = false); rfl) | ((with_reducible show isP _ = true); rfl) | ((with_reducible show (isStop _ || isP _) = false); rfl) | assumption | (simp only [GSB, Nat.reduceEqDiff, reduceIte]; done) | omega | (with_reducible decide) | (simp only [DSB, Go.Proofs.YtdfgdpjlbcnkfaaDoorAbs.oneC, Nat.reduceAdd, Nat.reduceLeDiff] <;> omega)) only [↓DN, ↓reduceIte, UP, CGB, Int.reduceEq, Int.reduceLT, Int.reduceLE, Nat.reduceEqDiff, Nat.reduceAdd, Nat.reduceMul, Nat.reduceSub, Int.reduceToNat, Nat.reduceLeDiff, PF, isStop, isP, goInt, beq_self_eq_true, decide_true, decide_false, Int.toNat_natCast, nn_eq, nn_ne, hb, e0, e1, e8, e9, hd])
    | ((with_reducible refine CB_intro (fun ht => hcA ?_) (fun ht => hcB ?_)) <;> (first | (simp only [Bool.true_eq_false, Bool.false_eq_true] at ht; done) | ((try simp only [Bool.not_eq_true', Bool.not_eq_false'] at ht); (try simp only [ht]); (try simp only [HTN] at ht); (try (exfalso; omega)))))
    | ((with_reducible refine W_regionI ?_); simp only [List.append_eq, List.cons_append, List.nil_append])
    | (with_reducible refine O_splitG fun cA cB hcA hcB => ?_)
    | (exact hQ _ _ _ _ _ hR1 hi1 hM hO hon hap))
  have hne : xs ≠ [] := fun q => by rw [q] at hkl; simp at hkl
  obtain ⟨vb, vo, vL, cs, el, own, vm, rfl, hcap, hvc, hvo, hvt, hvn1⟩ := hvv hne
  have w8 : decide (r1.state = 8) = false := decide_eq_false s8
  by_cases s3 : r1.state = 3
  · have hd1 := hi1.dat s3
    have hl1 := hi1.left
    have hle := hi1.len
    have hmo := hi1.most
    rw [s3] at hb
    obtain ⟨j, hj⟩ : ∃ j : Nat, (if ((xs.length - k : Nat) : Int) < r1.left then ((xs.length - k : Nat) : Int) else r1.left) = (j : Int) := by
      split
      · exact ⟨_, rfl⟩
      · exact ⟨r1.left.toNat, by omega⟩
    have hj1 : (j : Int) ≤ r1.left ∧ j ≤ xs.length - k ∧ 0 < j := by split at hj <;> omega
    have w2 : IntKind.u64.wrap ((xs.length - k : Nat) : Int) = ((xs.length - k : Nat) : Int) := Go.Proofs.YtdfgdpjlbcnkfaaDoorAbs.wpu64 (by omega) (by omega)
    have w3 : IntKind.i64.wrap (j : Int) = (j : Int) := Go.Proofs.YtdfgdpjlbcnkfaaDoorAbs.wp64 (by omega) (by omega)
    have w4 : IntKind.i64.wrap ((k : Int) + (j : Int)) = ((k + j : Nat) : Int) := by rw [Go.Proofs.YtdfgdpjlbcnkfaaDoorAbs.wp64 (by omega) (by omega)]; omega
    have w5 : IntKind.i64.wrap (r1.len + (j : Int)) = r1.len + j := Go.Proofs.YtdfgdpjlbcnkfaaDoorAbs.wp64 (by omega) (by omega)
    have w6 : IntKind.u64.wrap (j : Int) = (j : Int) := Go.Proofs.YtdfgdpjlbcnkfaaDoorAbs.wpu64 (by omega) (by omega)
    have w7 : IntKind.u64.wrap (r1.left - (j : Int)) = r1.left - j := Go.Proofs.YtdfgdpjlbcnkfaaDoorAbs.wpu64 (by omega) (by omega)
    have hkj : k + j - k = j := by omega
    obtain ⟨c2, hsl⟩ : ∃ c2, aslice Tryd.prog 22 (.slice (some ⟨vb, vo, some vL⟩) xs.length vc) (some (.int .i64 (k : Int))) (some (.int .i64 ((k + j : Nat) : Int))) none = some (.slice (some ⟨vb, vo + k, some vL⟩) j c2) := by
      rcases hcap with rfl | ⟨q1, q2⟩
      · refine ⟨UNK + 1, ?_⟩
        rw [aslice_lh u22 sz5 (by omega) (by omega) (by omega)]
        simp only [Int.toNat_natCast, Nat.mul_one, hkj]
      · refine ⟨vc - k, ?_⟩
        have a1 : (0 : Int) ≤ (k : Int) := Int.natCast_nonneg _
        have a2 : (0 : Int) ≤ ((k + j : Nat) : Int) := Int.natCast_nonneg _
        have a3 : ¬ UNK ≤ vc := by omega
        simp only [aslice, anat, if_pos a1, if_pos a2, u22, sz5, Int.toNat_natCast]
        rw [if_pos (.inl q2), if_neg a3]
        have a4 : k + j ≤ vc := by omega
        simp [abounds, asub, a3, a4, hkj]
    repeat' (first
    | (with_reducible first | refine W_pushC fun K hK => ?_ | refine W_blockI ?_ | refine W_scopeI ?_ | refine W_labelI ?_ | refine W_skipI ?_ | refine W_retI ?_ | refine W_exitI ?_ | refine then_normalI ?_ | refine then_retI ?_ | refine then_exitI ?_ | refine inBlock_normalI ?_ | refine inBlock_retI ?_ | refine inBlock_exitI ?_ | refine inBlock_exitN (by decide) ?_)
    | ((with_reducible first | refine bodyQ_normal0 ?_ | refine bodyQ_normal1 ?_ | refine bodyQ_normal2 ?_ | refine bodyQ_normal3 ?_ | refine bodyQ_normal4 ?_ | refine bodyQ_ret0 ?_ | refine bodyQ_ret1 ?_ | refine bodyQ_ret2 ?_ | refine bodyQ_ret3 ?_ | refine bodyQ_ret4 ?_); (try simp only [EVB, Nat.reduceEqDiff, reduceIte]))
    | (with_reducible refine Cont.use (by assumption) ?_)
    | (with_reducible first | refine hcA ?_ | refine hcB ?_)
    | ((with_reducible show W _ _ (.region _ _ true) _ _ _); first | (refine W_drawn (fl := [true, true, true, true, true, true, true, true, true, true, true, true, true, true, true]) (by kernel_rfl) ?_))
    | ((with_reducible first | refine W_condG fun cA cB hcA hcB => ?_ | refine W_regionI ?_ | show O _ _ _ _ _ _ _ _ | show OK _ _ _ _ _ _ _ _ _ | show OKF _ _ _ _ _ _ _ _ _ _ | show OKT _ _ _ _ _ _ _ _ _ _ _ _ | show _ ∧ _ | show CG _ _ _ | show CB _ _ _); simp (disch := first | ((with_reducible show isStop _ = false); rfl) | ((with_reducible show isP _ = true); rfl) | ((with_reducible show (isStop _ || isP _) = false); rfl) | assumption | (simp only [GSB, Nat.reduceEqDiff, reduceIte]; done) | omega | (with_reducible decide) | (simp only [DSB, Go.Proofs.YtdfgdpjlbcnkfaaDoorAbs.oneC, Nat.reduceAdd, Nat.reduceLeDiff] <;> omega)) only [↓DN, ↓reduceIte, UP, CGB, Int.reduceEq, Int.reduceLT, Int.reduceLE, Nat.reduceEqDiff, Nat.reduceAdd, Nat.reduceMul, Nat.reduceSub, Int.reduceToNat, Nat.reduceLeDiff, PF, isStop, isP, goInt, beq_self_eq_true, decide_true, decide_false, Int.toNat_natCast, nn_eq, nn_ne, hb, e0, e1, e8, e9, hd, wk, hj, w2, w3, w4, w5, w6, w7, hkj, hsl])
    | ((with_reducible refine CB_intro (fun ht => hcA ?_) (fun ht => hcB ?_)) <;> (first | (simp only [Bool.true_eq_false, Bool.false_eq_true] at ht; done) | ((try simp only [Bool.not_eq_true', Bool.not_eq_false'] at ht); (try simp only [ht]); (try simp only [HTN] at ht); (try (exfalso; omega)))))
    | ((with_reducible refine W_regionI ?_); simp only [List.append_eq, List.cons_append, List.nil_append])
    | (with_reducible refine O_splitG fun cA cB hcA hcB => ?_))
    have hsrc : asrc Tryd.prog S1 22 1 (.slice (some ⟨vb, vo + k, some vL⟩) j c2) = some (j, u8v ((xs.drop k).take j)) := by
      simp only [asrc, u22]
      rw [if_neg (by omega)]
      have : aread S1 ⟨vb, vo + k, some vL⟩ (j * 1) = some (u8v ((xs.drop k).take j)) := by
        have hlen : xs.length ≤ (cs.drop vo).length := by
          have := congrArg List.length hvt
          simp [u8v] at this ⊢
          omega
        unfold aread
        simp only [hvc]
        rw [if_pos ⟨fun q => ⟨(hvo q).1, by have := (hvo q).2; show vo + k + j * 1 ≤ vL; omega⟩, by simp at hlen ⊢; omega⟩]
        congr 1
        rw [Nat.mul_one, ← List.drop_drop]
        have : u8v ((xs.drop k).take j) = ((u8v xs).drop k).take j := by simp [u8v, List.map_drop, List.map_take]
        rw [this, ← hvt, List.drop_take, List.take_take, Nat.min_eq_left (by omega)]
      simp only [this]
      rw [if_pos (u8v_one _)]
    refine O_append (P := Tryd.prog) (elem := 5) (size := 1) (bytes := 1) (n := out.length) (m := j) (xs := u8v out) (ys := u8v ((xs.drop k).take j)) u22 sz5 by5 ze5 ⟨by decide, by decide, rfl⟩ (by simp only [EVB, Nat.reduceEqDiff, reduceIte, e8]; exact hO) (by simp only [EVB, Nat.reduceEqDiff, reduceIte]; exact hsrc) ⟨by simp [u8v]; omega, u8v_one _⟩ (by omega) fun ov2 S2 hO2 hKp hB => ?_
    simp only [EVB, Nat.reduceEqDiff, reduceIte, e8] at hKp hB
    have hR2 := hR1.kept hKp (fun i hi => by obtain ⟨q1, q2, q3⟩ := hap i hi; exact ⟨q1, q2, q3⟩)
    have hb := hR2.cell; have hnb2 := hR2.hn
    simp only [CR.as, CR.cells] at hb
    rw [s3, he] at hb
    simp only [errW] at hb
    obtain ⟨oa2, oc2, rfl⟩ := own_slice hO2
    repeat' (first
    | (with_reducible first | refine W_pushC fun K hK => ?_ | refine W_blockI ?_ | refine W_scopeI ?_ | refine W_labelI ?_ | refine W_skipI ?_ | refine W_retI ?_ | refine W_exitI ?_ | refine then_normalI ?_ | refine then_retI ?_ | refine then_exitI ?_ | refine inBlock_normalI ?_ | refine inBlock_retI ?_ | refine inBlock_exitI ?_ | refine inBlock_exitN (by decide) ?_)
    | ((with_reducible first | refine bodyQ_normal0 ?_ | refine bodyQ_normal1 ?_ | refine bodyQ_normal2 ?_ | refine bodyQ_normal3 ?_ | refine bodyQ_normal4 ?_ | refine bodyQ_ret0 ?_ | refine bodyQ_ret1 ?_ | refine bodyQ_ret2 ?_ | refine bodyQ_ret3 ?_ | refine bodyQ_ret4 ?_); (try simp only [EVB, Nat.reduceEqDiff, reduceIte]))
    | (with_reducible refine Cont.use (by assumption) ?_)
    | (with_reducible first | refine hcA ?_ | refine hcB ?_)
    | ((with_reducible show W _ _ (.region _ _ true) _ _ _); first | (refine W_drawn (fl := [true, true, true, true, true, true, true, true, true, true, true, true, true, true, true]) (by kernel_rfl) ?_))
    | ((with_reducible first | refine W_condG fun cA cB hcA hcB => ?_ | refine W_regionI ?_ | show O _ _ _ _ _ _ _ _ | show OK _ _ _ _ _ _ _ _ _ | show OKF _ _ _ _ _ _ _ _ _ _ | show OKT _ _ _ _ _ _ _ _ _ _ _ _ | show _ ∧ _ | show CG _ _ _ | show CB _ _ _); simp (disch := first | ((with_reducible show isStop _ = false); rfl) | ((with_reducible show isP _ = true); rfl) | ((with_reducible show (isStop _ || isP _) = false); rfl) | assumption | (simp only [GSB, Nat.reduceEqDiff, reduceIte]; done) | omega | (with_reducible decide) | (simp only [DSB, Go.Proofs.YtdfgdpjlbcnkfaaDoorAbs.oneC, Nat.reduceAdd, Nat.reduceLeDiff] <;> omega)) only [↓DN, ↓reduceIte, UP, CGB, Int.reduceEq, Int.reduceLT, Int.reduceLE, Nat.reduceEqDiff, Nat.reduceAdd, Nat.reduceMul, Nat.reduceSub, Int.reduceToNat, Nat.reduceLeDiff, PF, isStop, isP, goInt, beq_self_eq_true, decide_true, decide_false, Int.toNat_natCast, nn_eq, nn_ne, hb, e0, e1, e8, e9, hd, wk, hj, w2, w3, w4, w5, w6, w7, hkj])
    | ((with_reducible refine CB_intro (fun ht => hcA ?_) (fun ht => hcB ?_)) <;> (first | (simp only [Bool.true_eq_false, Bool.false_eq_true] at ht; done) | ((try simp only [Bool.not_eq_true', Bool.not_eq_false'] at ht); (try simp only [ht]); (try simp only [HTN] at ht); (try (exfalso; omega)))))
    | ((with_reducible refine W_regionI ?_); simp only [List.append_eq, List.cons_append, List.nil_append])
    | (with_reducible refine O_splitG fun cA cB hcA hcB => ?_))
    all_goals
      have hM2 := (hM.kept hKp hon)
      have hob : blkOf (.slice oa2 (out.length + j) oc2) ≠ some b := by
        rcases hB with q | ⟨i, q1, q2⟩
        · rw [q]; intro z; exact (hap b z).1 rfl
        · rw [q2]; intro z; cases z; omega
      have hon2 : ∀ i, blkOf (.slice oa2 (out.length + j) oc2) = some i → S.next ≤ i := by
        intro i hi
        rcases hB with q | ⟨i', q1, q2⟩
        · exact hon i (q ▸ hi)
        · rw [q2] at hi; cases hi; exact Nat.le_trans hM.next q1
      have hap2 : Apart (.slice oa2 (out.length + j) oc2) b tv1 lv1 := by
        intro i hi
        rcases hB with q | ⟨i', q1, q2⟩
        · exact hap i (q ▸ hi)
        · rw [q2] at hi; cases hi
          refine ⟨by omega, fun z => ?_, fun z => ?_⟩
          · have := own_lt hR1.text z; omega
          · have := own_lt hR1.trl z; omega
      have hyl : ((xs.drop k).take j).length = j := by simp; omega
      have hfd := feed_data r1 he s3 ((xs.drop k).take j) ((xs.drop k).drop j) (fun z => by rw [z] at hyl; simp at hyl; omega) (by rw [hyl]; exact hj1.1)
      rw [List.take_append_drop, List.drop_drop, hyl] at hfd
      rw [hfd] at hF
      have hO3 : Own 5 1 S2 (.slice oa2 (out.length + j) oc2) (out ++ (xs.drop k).take j).length (u8v (out ++ (xs.drop k).take j)) := by
        rw [List.length_append, hyl]
        simpa [u8v] using hO2
      have hcells : [Value.int .i64 r1.most, .int .i64 (r1.len + j), .int .i64 (if r1.left - (j : Int) = 0 then 4 else 3), .nilIface, .int .i64 r1.digits, .int .u64 (r1.left - j), .bool r1.over, .int .i64 r1.extra, tv1, .int .i64 r1.sum, lv1] = ((dataF r1 j).as tv1 lv1).cells := by
        simp [dataF, CR.as, CR.cells, errW, he, s3]
      refine ⟨xs.length - (k + j), by omega, k + j, dataF r1 j, out ++ (xs.drop k).take j, tv1, lv1, _, 11, by simp only [EVB, Nat.reduceEqDiff, reduceIte, e0], by simp only [EVB, Nat.reduceEqDiff, reduceIte, e1], by simp only [EVB, Nat.reduceEqDiff, reduceIte], by simp only [EVB, Nat.reduceEqDiff, reduceIte], by omega, rfl, hR2.upd (dataF r1 j) (by rw [← hcells]; simp [*]) rfl rfl, dataF_inv hi1 he s3 hj1.1, hM2.trans Mv.upd, own_upd hO3 hob, hon2, hap2, by rw [List.length_append, hyl]; omega, by rw [hF]; simp [Nat.add_assoc]⟩
  have d3 : decide (r1.state = 3) = false := decide_eq_false s3
  obtain ⟨c, hc⟩ : ∃ c, xs[k]? = some c := ⟨xs[k], by simp [hkl]⟩
  have hcell : cellAt (S1.get vb) (vo + k) vL = some (.int .u8 c.toNat) := by
    have e1 : ((cs.drop vo).take xs.length)[k]? = some (.int .u8 c.toNat) := by rw [hvt]; simp [u8v, hc]
    rw [List.getElem?_take, if_pos hkl, List.getElem?_drop] at e1
    rw [hvc]
    simp only [cellAt]
    rw [if_pos (fun q => ⟨(hvo q).1, by have := (hvo q).2; omega⟩)]
    exact e1
  have w4 : IntKind.i64.wrap ((k : Int) + 1) = ((k + 1 : Nat) : Int) := by rw [Go.Proofs.YtdfgdpjlbcnkfaaDoorAbs.wp64 (by omega) (by omega)]; omega
  have hsm := hi1.sum; have htx := hi1.text; have htr := hi1.trl
  have htl : r1.text.length ≤ 8192 := by have := hsm.2.2 he; omega
  have hdr : xs.drop k = c :: xs.drop (k + 1) := by
    rw [List.drop_eq_getElem_cons hkl]
    congr 1
    rw [List.getElem?_eq_getElem hkl] at hc
    exact Option.some.inj hc
  have hfd : feedF r1 (xs.drop k) = ((feedF (stepF r1 c) (xs.drop (k + 1))).1 + 1, (feedF (stepF r1 c) (xs.drop (k + 1))).2.1, (feedF (stepF r1 c) (xs.drop (k + 1))).2.2) := by
    rw [hdr]
    conv => lhs; unfold feedF
    rw [if_neg (by simp [he, s8])]
    simp [byteF, outF, s3]
  rw [hfd] at hF
  repeat' (first
    | (with_reducible first | refine W_pushC fun K hK => ?_ | refine W_blockI ?_ | refine W_scopeI ?_ | refine W_labelI ?_ | refine W_skipI ?_ | refine W_retI ?_ | refine W_exitI ?_ | refine then_normalI ?_ | refine then_retI ?_ | refine then_exitI ?_ | refine inBlock_normalI ?_ | refine inBlock_retI ?_ | refine inBlock_exitI ?_ | refine inBlock_exitN (by decide) ?_)
    | ((with_reducible first | refine bodyQ_normal0 ?_ | refine bodyQ_normal1 ?_ | refine bodyQ_normal2 ?_ | refine bodyQ_normal3 ?_ | refine bodyQ_normal4 ?_ | refine bodyQ_ret0 ?_ | refine bodyQ_ret1 ?_ | refine bodyQ_ret2 ?_ | refine bodyQ_ret3 ?_ | refine bodyQ_ret4 ?_); (try simp only [EVB, Nat.reduceEqDiff, reduceIte]))
    | ((with_reducible show C _ _ _ _ _ _); first | (refine step_C h hR1 htl htr.1 hi1.col (fun S2 tv2 lv2 m2 hR2 hM2 => ?_)))
    | (with_reducible refine Cont.use (by assumption) ?_)
    | (with_reducible first | refine hcA ?_ | refine hcB ?_)
    | ((with_reducible show W _ _ (.region _ _ true) _ _ _); first | (refine W_drawn (fl := [true, true, true, true, true, true, true, true, true, true, true, true, true, true, true]) (by kernel_rfl) ?_))
    | ((with_reducible first | refine W_condG fun cA cB hcA hcB => ?_ | refine W_regionI ?_ | show O _ _ _ _ _ _ _ _ | show OK _ _ _ _ _ _ _ _ _ | show OKF _ _ _ _ _ _ _ _ _ _ | show OKT _ _ _ _ _ _ _ _ _ _ _ _ | show _ ∧ _ | show CG _ _ _ | show CB _ _ _); simp (disch := first | ((with_reducible show isStop _ = false); rfl) | ((with_reducible show isP _ = true); rfl) | ((with_reducible show (isStop _ || isP _) = false); rfl) | assumption | (simp only [GSB, Nat.reduceEqDiff, reduceIte]; done) | omega | (with_reducible decide) | (simp only [DSB, Go.Proofs.YtdfgdpjlbcnkfaaDoorAbs.oneC, Nat.reduceAdd, Nat.reduceLeDiff] <;> omega)) only [↓DN, ↓reduceIte, UP, CGB, Int.reduceEq, Int.reduceLT, Int.reduceLE, Nat.reduceEqDiff, Nat.reduceAdd, Nat.reduceMul, Nat.reduceSub, Int.reduceToNat, Nat.reduceLeDiff, PF, isStop, isP, goInt, beq_self_eq_true, decide_true, decide_false, Int.toNat_natCast, nn_eq, nn_ne, hb, e0, e1, e8, e9, hd, w8, d3, hcell, w4])
    | ((with_reducible refine CB_intro (fun ht => hcA ?_) (fun ht => hcB ?_)) <;> (first | (simp only [Bool.true_eq_false, Bool.false_eq_true] at ht; done) | ((try simp only [Bool.not_eq_true', Bool.not_eq_false'] at ht); (try simp only [ht]); (try simp only [HTN] at ht); (try (exfalso; omega)))))
    | ((with_reducible refine W_regionI ?_); simp only [List.append_eq, List.cons_append, List.nil_append])
    | (with_reducible refine O_splitG fun cA cB hcA hcB => ?_)
    | ((refine ⟨xs.length - (k + 1), by omega, k + 1, stepF r1 c, out, tv2, lv2, _, m2, by simp only [EVB, Nat.reduceEqDiff, reduceIte, e0], by simp only [EVB, Nat.reduceEqDiff, reduceIte, e1], by simp only [EVB, Nat.reduceEqDiff, reduceIte, e8], by simp only [EVB, Nat.reduceEqDiff, reduceIte], by omega, rfl, hR2, stepF_inv hi1 he s3, hM.trans hM2, own_mv hO hap hM2, hon, hap.mv hM2 (fun i hi => own_lt hO hi), by omega, by rw [hF]; simp [Nat.add_assoc, Nat.add_comm 1]⟩)))
end
end Go.Proofs.YtdfgdpjlbcnkfaaDoor.Q
namespace Go.Proofs.YtdfgdpjlbcnkfaaDoor.Q
open Go Go.Proofs.YtdfgdpjlbcnkfaaDoorAbs Go.Proofs
set_option linter.unusedVariables false
set_option linter.unusedSimpArgs false
set_option maxRecDepth 100000
set_option maxHeartbeats 4000000
attribute [local irreducible] Go.Proofs.YtdfgdpjlbcnkfaaDoorAbs.O Go.Proofs.YtdfgdpjlbcnkfaaDoorAbs.W Go.Proofs.YtdfgdpjlbcnkfaaDoorAbs.C Go.Proofs.YtdfgdpjlbcnkfaaDoorAbs.OK Go.Proofs.YtdfgdpjlbcnkfaaDoorAbs.OKF Go.Proofs.YtdfgdpjlbcnkfaaDoorAbs.OKT Go.Proofs.YtdfgdpjlbcnkfaaDoorAbs.then_ Go.Proofs.YtdfgdpjlbcnkfaaDoorAbs.inBlock_ Go.Proofs.YtdfgdpjlbcnkfaaDoorAbs.bodyQ Go.Proofs.YtdfgdpjlbcnkfaaDoorAbs.Cont
section
variable {I : Prims} {S : St} {Q : Value → St → Prop}
def CR.fresh {α β : Type} (t : α) (l : β) (most : Int) : CR α β := ⟨most, 0, 0, none, 0, 0, false, 0, t, 0, l⟩
theorem New_C (h : HI I) {most : Int}
    (hQ : ¬ (most < 0 ∨ 1099511627776 < most) → Q (.tuple #[.pointer (some ⟨S.next, 0, some 11⟩), .nilIface]) (S.push ⟨(CR.fresh (.slice none 0 0) (.slice none 0 0) most).cells, 62, true, 0⟩))
    (hQ2 : (most < 0 ∨ 1099511627776 < most) → Q (.tuple #[.pointer none, .iface 58 (.int .i64 1)]) S) :
    C Tryd.prog I 12 #[.int .i64 most] S Q := by
  refine C_body (rs := [.tmp 2, .tmp 3]) (h.no 12 (by decide)) Tryd.func12 rfl rfl ok12 ?_
  obtain ⟨u22, sz5, u5, u9, u3, u29, u34, u33, sz3, u4, u41, sz66, u46, sz28, u47, u52, sz22, sz62, sz24, sz59, u59, sz60, u60, sz41, sz58, u58, sz73, sz34, sz4, sz9, sz83, u88, sz86, u112, sz118, u118, u2, sz126, u126, u21, sz130, u130, u139, u140, sz141, u141, u145, u148, sz147, u154, u155⟩ := UF
  repeat' (first
    | (with_reducible first | refine W_pushC fun K hK => ?_ | refine W_blockI ?_ | refine W_scopeI ?_ | refine W_labelI ?_ | refine W_skipI ?_ | refine W_retI ?_ | refine W_exitI ?_ | refine then_normalI ?_ | refine then_retI ?_ | refine then_exitI ?_ | refine inBlock_normalI ?_ | refine inBlock_retI ?_ | refine inBlock_exitI ?_ | refine inBlock_exitN (by decide) ?_)
    | ((with_reducible first | refine bodyQ_normal0 ?_ | refine bodyQ_normal1 ?_ | refine bodyQ_normal2 ?_ | refine bodyQ_normal3 ?_ | refine bodyQ_normal4 ?_ | refine bodyQ_ret0 ?_ | refine bodyQ_ret1 ?_ | refine bodyQ_ret2 ?_ | refine bodyQ_ret3 ?_ | refine bodyQ_ret4 ?_); (try simp only [EVB, Nat.reduceEqDiff, reduceIte]))
    | (with_reducible refine Cont.use (by assumption) ?_)
    | (with_reducible first | refine hcA ?_ | refine hcB ?_)
    | ((with_reducible first | refine W_condG fun cA cB hcA hcB => ?_ | refine W_regionI ?_ | show O _ _ _ _ _ _ _ _ | show OK _ _ _ _ _ _ _ _ _ | show OKF _ _ _ _ _ _ _ _ _ _ | show OKT _ _ _ _ _ _ _ _ _ _ _ _ | show _ ∧ _ | show CG _ _ _ | show CB _ _ _); simp (disch := first | ((with_reducible show isStop _ = false); rfl) | ((with_reducible show isP _ = true); rfl) | ((with_reducible show (isStop _ || isP _) = false); rfl) | assumption | (simp only [GSB, Nat.reduceEqDiff, reduceIte]; done) | omega | (with_reducible decide) | (simp only [DSB, Go.Proofs.YtdfgdpjlbcnkfaaDoorAbs.oneC, Nat.reduceAdd, Nat.reduceLeDiff] <;> omega)) only [↓DN, ↓reduceIte, UP, CGB, Int.reduceEq, Int.reduceLT, Int.reduceLE, Nat.reduceEqDiff, Nat.reduceAdd, Nat.reduceMul, Nat.reduceSub, Int.reduceToNat, Nat.reduceLeDiff, PF, isStop, isP, goInt, beq_self_eq_true, decide_true, decide_false, Int.toNat_natCast, nn_eq, nn_ne])
    | ((with_reducible refine CB_intro (fun ht => hcA ?_) (fun ht => hcB ?_)) <;> (first | (simp only [Bool.true_eq_false, Bool.false_eq_true] at ht; done) | ((try simp only [Bool.not_eq_true', Bool.not_eq_false'] at ht); (try simp only [ht]); (try simp only [HTN] at ht); (try (exfalso; omega)))))
    | ((with_reducible refine W_regionI ?_); simp only [List.append_eq, List.cons_append, List.nil_append])
    | (with_reducible refine O_splitG fun cA cB hcA hcB => ?_)
    | (exact hQ2 (by omega))
    | (exact hQ (by omega)))
def numF : Option Int → Int
  | none => 0
  | some c => c
theorem pr_map {α β : Type} {P : Program} (f : α → β) (e : Sem α) : pureRun P (f <$> e) = (pureRun P e).map f := by
  show pureRun P (e >>= fun a => pure (f a)) = _
  rw [pureRun_bind]
  cases pureRun P e <;> rfl
end
end Go.Proofs.YtdfgdpjlbcnkfaaDoor.Q
namespace Go.Proofs
open Go.Shelf
open Go.RowKit in
open Go.RowKit in
def Tryd.lays160_ren : Go.Shelf.Ren := ⟨fun | 160 => 55 | 232 => 70 | 231 => 69 | 227 => 71 | 234 => 73 | 233 => 72 | 236 => 75 | 235 => 74 | 228 => 80 | 271 => 83 | 151 => 82 | 197 => 81 | 120 => 92 | 152 => 91 | 260 => 90 | 137 => 68 | 119 => 102 | 224 => 100 | 225 => 103 | 217 => 79 | 266 => 89 | n => n, fun | 9 => 9 | 4 => 4 | 3 => 3 | 5 => 5 | 117 => 119 | 116 => 118 | 0 => 0 | 124 => 122 | 21 => 21 | 105 => 127 | 46 => 29 | 119 => 145 | 139 => 148 | 138 => 147 | n => n, fun | 3 => 3 | 4 => 4 | n => n⟩
theorem Tryd.lays160 : Go.Proofs.Lays.n160 Tryd.prog Tryd.lays160_ren := {
  mixed := by kernel_rfl
  f119 := Tryd.func102.trans (congrArg some (by kernel_rfl))
  f120 := Tryd.func92.trans (congrArg some (by kernel_rfl))
  f137 := Tryd.func68.trans (congrArg some (by kernel_rfl))
  f151 := Tryd.func82.trans (congrArg some (by kernel_rfl))
  f152 := Tryd.func91.trans (congrArg some (by kernel_rfl))
  f160 := Tryd.func55.trans (congrArg some (by kernel_rfl))
  f197 := Tryd.func81.trans (congrArg some (by kernel_rfl))
  f217 := Tryd.func79.trans (congrArg some (by kernel_rfl))
  f224 := Tryd.func100.trans (congrArg some (by kernel_rfl))
  f225 := Tryd.func103.trans (congrArg some (by kernel_rfl))
  f227 := Tryd.func71.trans (congrArg some (by kernel_rfl))
  f228 := Tryd.func80.trans (congrArg some (by kernel_rfl))
  f231 := Tryd.func69.trans (congrArg some (by kernel_rfl))
  f232 := Tryd.func70.trans (congrArg some (by kernel_rfl))
  f233 := Tryd.func72.trans (congrArg some (by kernel_rfl))
  f234 := Tryd.func73.trans (congrArg some (by kernel_rfl))
  f235 := Tryd.func74.trans (congrArg some (by kernel_rfl))
  f236 := Tryd.func75.trans (congrArg some (by kernel_rfl))
  f260 := Tryd.func90.trans (congrArg some (by kernel_rfl))
  f266 := Tryd.func89.trans (congrArg some (by kernel_rfl))
  f271 := Tryd.func83.trans (congrArg some (by kernel_rfl))
  t0 := Tryd.underlying0
  a0 := Tryd.isAgg0
  z0 := Tryd.sizeOf0
  v0 := Tryd.zeroValue0
  t3 := Tryd.underlying3
  a3 := Tryd.isAgg3
  z3 := Tryd.sizeOf3
  v3 := Tryd.zeroValue3
  t4 := Tryd.underlying4
  a4 := Tryd.isAgg4
  z4 := Tryd.sizeOf4
  v4 := Tryd.zeroValue4
  t5 := Tryd.underlying5
  a5 := Tryd.isAgg5
  z5 := Tryd.sizeOf5
  v5 := Tryd.zeroValue5
  t9 := Tryd.underlying9
  a9 := Tryd.isAgg9
  z9 := Tryd.sizeOf9
  v9 := Tryd.zeroValue9
  t21 := Tryd.underlying21
  a21 := Tryd.isAgg21
  z21 := Tryd.sizeOf21
  v21 := Tryd.zeroValue21
  t46 := Tryd.underlying29
  a46 := Tryd.isAgg29
  z46 := Tryd.sizeOf29
  v46 := Tryd.zeroValue29
  t105 := Tryd.underlying127
  a105 := Tryd.isAgg127
  z105 := Tryd.sizeOf127
  v105 := Tryd.zeroValue127
  t116 := Tryd.underlying118
  a116 := Tryd.isAgg118
  z116 := Tryd.sizeOf118
  t117 := Tryd.underlying119
  a117 := Tryd.isAgg119
  z117 := Tryd.sizeOf119
  v117 := Tryd.zeroValue119
  t119 := Tryd.underlying145
  a119 := Tryd.isAgg145
  z119 := Tryd.sizeOf145
  t124 := Tryd.underlying122
  a124 := Tryd.isAgg122
  z124 := Tryd.sizeOf122
  v124 := Tryd.zeroValue122
  t138 := Tryd.underlying147
  a138 := Tryd.isAgg147
  z138 := Tryd.sizeOf147
  v138 := Tryd.zeroValue147
  t139 := Tryd.underlying148
  a139 := Tryd.isAgg148
  z139 := Tryd.sizeOf148
  v139 := Tryd.zeroValue148
  g3 := by kernel_rfl
  g4 := by kernel_rfl }
open Go.RowKit in
def Tryd.lays137_ren : Go.Shelf.Ren := ⟨fun | 137 => 68 | 217 => 79 | 266 => 89 | n => n, fun | 9 => 9 | 5 => 5 | 3 => 3 | n => n, fun | n => n⟩
theorem Tryd.lays137 : Go.Proofs.Lays.n137 Tryd.prog Tryd.lays137_ren := {
  mixed := by kernel_rfl
  f137 := Tryd.func68.trans (congrArg some (by kernel_rfl))
  f217 := Tryd.func79.trans (congrArg some (by kernel_rfl))
  f266 := Tryd.func89.trans (congrArg some (by kernel_rfl))
  t3 := Tryd.underlying3
  a3 := Tryd.isAgg3
  z3 := Tryd.sizeOf3
  v3 := Tryd.zeroValue3
  t5 := Tryd.underlying5
  a5 := Tryd.isAgg5
  z5 := Tryd.sizeOf5
  v5 := Tryd.zeroValue5
  t9 := Tryd.underlying9
  a9 := Tryd.isAgg9
  z9 := Tryd.sizeOf9
  v9 := Tryd.zeroValue9 }
open Go.RowKit in
theorem Tryd.strings_IndexByte (s : ByteArray) (c : Int) (w : World) :
    Calls Tryd.prog 68 #[.string s, .int .u8 c] w fun e w' => e = .returned (.int .i64 (Lib.indexByte s.data.toList c.toNat.toUInt8)) ∧ w' = w := Any.strings_IndexByte Tryd.lays137 s c w
open Go.RowKit Go.Lib in
open Go.RowKit Go.Lib in
open Go.RowKit Go.Lib in
def Tryd.lays185_ren : Go.Shelf.Ren := ⟨fun | 185 => 88 | 187 => 60 | 115 => 98 | 253 => 99 | 224 => 100 | 254 => 101 | 255 => 78 | 291 => 106 | n => n, fun | 37 => 22 | 3 => 3 | 4 => 4 | 0 => 0 | 5 => 5 | 46 => 29 | 9 => 9 | 146 => 152 | 51 => 140 | n => n, fun | 1 => 1 | n => n⟩
theorem Tryd.lays185 : Go.Proofs.Lays.n185 Tryd.prog Tryd.lays185_ren := {
  mixed := by kernel_rfl
  f115 := Tryd.func98.trans (congrArg some (by kernel_rfl))
  f185 := Tryd.func88.trans (congrArg some (by kernel_rfl))
  f187 := Tryd.func60.trans (congrArg some (by kernel_rfl))
  f224 := Tryd.func100.trans (congrArg some (by kernel_rfl))
  f253 := Tryd.func99.trans (congrArg some (by kernel_rfl))
  f254 := Tryd.func101.trans (congrArg some (by kernel_rfl))
  f255 := Tryd.func78.trans (congrArg some (by kernel_rfl))
  f291 := Tryd.func106.trans (congrArg some (by kernel_rfl))
  t0 := Tryd.underlying0
  a0 := Tryd.isAgg0
  z0 := Tryd.sizeOf0
  v0 := Tryd.zeroValue0
  t3 := Tryd.underlying3
  a3 := Tryd.isAgg3
  z3 := Tryd.sizeOf3
  v3 := Tryd.zeroValue3
  t4 := Tryd.underlying4
  a4 := Tryd.isAgg4
  z4 := Tryd.sizeOf4
  v4 := Tryd.zeroValue4
  t5 := Tryd.underlying5
  a5 := Tryd.isAgg5
  z5 := Tryd.sizeOf5
  v5 := Tryd.zeroValue5
  t9 := Tryd.underlying9
  a9 := Tryd.isAgg9
  z9 := Tryd.sizeOf9
  v9 := Tryd.zeroValue9
  t37 := Tryd.underlying22
  a37 := Tryd.isAgg22
  z37 := Tryd.sizeOf22
  v37 := Tryd.zeroValue22
  t46 := Tryd.underlying29
  a46 := Tryd.isAgg29
  z46 := Tryd.sizeOf29
  v46 := Tryd.zeroValue29
  t51 := Tryd.underlying140
  a51 := Tryd.isAgg140
  z51 := Tryd.sizeOf140
  v51 := Tryd.zeroValue140
  t146 := Tryd.underlying152
  a146 := Tryd.isAgg152
  z146 := Tryd.sizeOf152
  v146 := Tryd.zeroValue152
  g1 := by kernel_rfl }
open Go.RowKit Go.Lib in
open Go.RowKit Go.Lib in
open Go.RowKit Go.Lib in
open Go.RowKit Go.Lib in
open Go.RowKit Go.Lib in
def Tryd.lays187_ren : Go.Shelf.Ren := ⟨fun | 187 => 60 | 255 => 78 | n => n, fun | 37 => 22 | 5 => 5 | 3 => 3 | n => n, fun | n => n⟩
theorem Tryd.lays187 : Go.Proofs.Lays.n187 Tryd.prog Tryd.lays187_ren := {
  mixed := by kernel_rfl
  f187 := Tryd.func60.trans (congrArg some (by kernel_rfl))
  f255 := Tryd.func78.trans (congrArg some (by kernel_rfl))
  t3 := Tryd.underlying3
  a3 := Tryd.isAgg3
  z3 := Tryd.sizeOf3
  v3 := Tryd.zeroValue3
  t5 := Tryd.underlying5
  a5 := Tryd.isAgg5
  z5 := Tryd.sizeOf5
  v5 := Tryd.zeroValue5
  t37 := Tryd.underlying22
  a37 := Tryd.isAgg22
  z37 := Tryd.sizeOf22
  v37 := Tryd.zeroValue22 }
open Go.RowKit Go.Lib in
theorem Tryd.bytes_IndexByte_at (a : Addr) (n c : Nat) (xs : List Int) (cv : Int) (w : World) (hx : xs.length = n) (hc : ∀ i, i < n → w.cell? (a.add i) = some (.int .u8 (xs.getD i 0))) :
    Calls Tryd.prog 60 #[.slice (some a) n c, .int .u8 cv] w fun e w' => e = .returned (.int .i64 (Lib.indexByte (Lib.bytesOf xs) cv.toNat.toUInt8)) ∧ w' = w := Any.bytes_IndexByte_at Tryd.lays187 a n c xs cv w hx hc
open Go.RowKit Go.Lib in
theorem Tryd.bytes_Index_one_at (a : Addr) (n c b2 o2 d : Nat) (xs : List Int) (cv : Int) (w : World) (hx : xs.length = n) (hc : ∀ i, i < n → w.cell? (a.add i) = some (.int .u8 (xs.getD i 0))) (hc2 : w.cell? ⟨b2, o2, none⟩ = some (.int .u8 cv)) :
    Calls Tryd.prog 88 #[.slice (some a) n c, .slice (some ⟨b2, o2, none⟩) 1 d] w fun e w' => e = .returned (.int .i64 (Lib.indexByte (Lib.bytesOf xs) cv.toNat.toUInt8)) ∧ w' = w := Any.bytes_Index_one_at Tryd.lays185 a n c b2 o2 d xs cv w hx hc hc2
open Go.Proofs Go.RowKit Go.Lib in
open Go.Proofs Go.RowKit Go.Lib in
open Go.RowKit Go.Lib in
open Go.RowKit Go.Lib in
open Go.RowKit Go.Lib in
open Go.Proofs Go.RowKit Go.Lib in
open Go.Proofs Go.RowKit Go.Lib in
open Go.Proofs Go.RowKit Go.Lib in
open Go.RowKit Go.Lib in
open Go.RowKit Go.Lib in
theorem Tryd.bytes_IndexByte_nil (cv : Int) (w : World) :
    Calls Tryd.prog 60 #[.slice none 0 0, .int .u8 cv] w fun e w' => e = .returned (.int .i64 (-1)) ∧ w' = w := Any.bytes_IndexByte_nil Tryd.lays187 cv w
end Go.Proofs
namespace Go.Proofs.YtdfgdpjlbcnkfaaDoor.Q
open Go Go.Proofs.YtdfgdpjlbcnkfaaDoorAbs Go.Proofs Go.RowKit
set_option linter.unusedVariables false
set_option linter.unusedSimpArgs false
def nums8 : List Value → Option (List Int)
  | [] => some []
  | .int .u8 n :: r => (nums8 r).map (n :: ·)
  | _ => none
theorem nums8_get : ∀ (cs : List Value) (xs : List Int), nums8 cs = some xs → xs.length = cs.length ∧ ∀ i, i < xs.length → cs[i]? = some (.int .u8 (xs.getD i 0))
  | [], xs, h => by cases h; exact ⟨rfl, fun i hi => by simp at hi⟩
  | c :: cs, xs, h => by
    unfold nums8 at h
    split at h
    · rename_i e; cases e
    · rename_i n r e
      cases e
      obtain ⟨ys, h1, rfl⟩ := Option.map_eq_some_iff.1 h
      obtain ⟨h2, h3⟩ := nums8_get _ ys h1
      refine ⟨by simp [h2], fun i hi => ?_⟩
      cases i with
      | zero => simp
      | succ i => simpa using h3 i (by simpa using hi)
    · cases h
def pIdxS (_ : Nat) (xs : Array Value) (_ : St) : Option Value := match xs with
  | ⟨[.string s, .int .u8 c]⟩ => some (.int .i64 (Lib.indexByte s.data.toList c.toNat.toUInt8))
  | _ => none
theorem still_idxS (k : Nat) : Still Tryd.prog 68 (pIdxS k) := ⟨fun xs S v h ρ w ys hrel hxs => by
  unfold pIdxS at h
  split at h
  case h_2 => cases h
  rename_i s c
  cases h
  obtain ⟨y, ys', hy, h4, h5⟩ := hxs.uncons
  obtain ⟨z, zs', rfl, h6, h7⟩ := h5.uncons
  obtain rfl := h7.of_nil
  obtain rfl := h4.leaf_eq rfl
  obtain rfl := h6.leaf_eq rfl
  obtain rfl : ys = #[.string s, .int .u8 c] := Array.ext' hy
  exact (Tryd.strings_IndexByte s c w).mono fun e w' ⟨h1, h2⟩ => ⟨_, h1, VR.scalar rfl, h2 ▸ Below.refl _ _⟩⟩
def pIdxB (_ : Nat) (xs : Array Value) (S : St) : Option Value := match xs with
  | ⟨[.slice none 0 0, .int .u8 c]⟩ => some (.int .i64 (-1))
  | ⟨[v, .int .u8 c]⟩ => (cellsAt 1 S v).bind fun cs => if cs = [] then none else (nums8 cs).map fun ns => .int .i64 (Lib.indexByte (Lib.bytesOf ns) c.toNat.toUInt8)
  | _ => none
theorem still_idxB (k : Nat) : Still Tryd.prog 60 (pIdxB k) := ⟨fun xs S v h ρ w ys hrel hxs => by
  unfold pIdxB at h
  split at h
  · rename_i c
    cases h
    obtain ⟨y, ys', hy, h4, h5⟩ := hxs.uncons
    obtain ⟨z, zs', rfl, h6, h7⟩ := h5.uncons
    obtain rfl := h7.of_nil
    obtain rfl := h4.leaf_eq rfl
    obtain rfl := h6.leaf_eq rfl
    obtain rfl : ys = #[.slice none 0 0, .int .u8 c] := Array.ext' hy
    exact (Tryd.bytes_IndexByte_nil c w).mono fun e w' ⟨h1, h2⟩ => ⟨_, h1, VR.scalar rfl, h2 ▸ Below.refl _ _⟩
  · rename_i x c _
    obtain ⟨cs, h1, h2⟩ := Option.bind_eq_some_iff.1 h
    split at h2
    · cases h2
    rename_i hne
    obtain ⟨ns, h3, rfl⟩ := Option.map_eq_some_iff.1 h2
    obtain ⟨g1, g2⟩ := nums8_get cs ns h3
    obtain ⟨y, ys', hy, h4, h5⟩ := hxs.uncons
    obtain ⟨z, zs', rfl, h6, h7⟩ := h5.uncons
    obtain rfl := h7.of_nil
    obtain rfl := h6.leaf_eq rfl
    obtain ⟨A, n, C, rfl, k1, k2, k3, _⟩ := cellsAt_sim hrel h4 h1
    obtain rfl : ys = #[.slice A n C, .int .u8 c] := Array.ext' hy
    have hn : n = ns.length := by omega
    subst hn
    have hpos : 0 < ns.length := by
      rcases Nat.eq_zero_or_pos ns.length with e | e
      · exact absurd (List.length_eq_zero_iff.1 (by omega)) hne
      · exact e
    obtain ⟨ad, rfl, _⟩ := k3 0 _ (g2 0 hpos)
    refine (Tryd.bytes_IndexByte_at ad ns.length C ns c w rfl fun i hi => ?_).mono fun e w' ⟨h1, h2⟩ => ⟨_, h1, VR.scalar rfl, h2 ▸ Below.refl _ _⟩
    obtain ⟨ad', e1, e2⟩ := k3 i _ (g2 i hi)
    cases e1
    exact e2
  · cases h⟩
def pIdx1 (_ : Nat) (xs : Array Value) (S : St) : Option Value := match xs with
  | ⟨[v, sep]⟩ => (cellsAt 1 S v).bind fun cs => (cellsAt 1 S sep).bind fun ds => match ds with
    | [.int .u8 c] => if cs = [] then none else (nums8 cs).map fun ns => .int .i64 (Lib.indexByte (Lib.bytesOf ns) c.toNat.toUInt8)
    | _ => none
  | _ => none
theorem still_idx1 (k : Nat) : Still Tryd.prog 88 (pIdx1 k) := ⟨fun xs S v h ρ w ys hrel hxs => by
  unfold pIdx1 at h
  split at h
  case h_2 => cases h
  rename_i x sep
  obtain ⟨cs, h1, h2⟩ := Option.bind_eq_some_iff.1 h
  obtain ⟨ds, h3, h4⟩ := Option.bind_eq_some_iff.1 h2
  split at h4
  case h_2 => cases h4
  rename_i c
  split at h4
  · cases h4
  rename_i hne
  obtain ⟨ns, h5, rfl⟩ := Option.map_eq_some_iff.1 h4
  obtain ⟨g1, g2⟩ := nums8_get cs ns h5
  obtain ⟨y, ys', hy, k4, k5⟩ := hxs.uncons
  obtain ⟨z, zs', rfl, k6, k7⟩ := k5.uncons
  obtain rfl := k7.of_nil
  obtain ⟨A, n, C, rfl, q1, q2, q3, _⟩ := cellsAt_sim hrel k4 h1
  obtain ⟨A2, n2, C2, rfl, r1, r2, r3, _⟩ := cellsAt_sim hrel k6 h3
  obtain rfl : ys = #[.slice A n C, .slice A2 n2 C2] := Array.ext' hy
  have hn : n = ns.length := by omega
  subst hn
  have hn2 : n2 = 1 := by simpa using r2.symm
  subst hn2
  have hpos : 0 < ns.length := by
    rcases Nat.eq_zero_or_pos ns.length with e | e
    · exact absurd (List.length_eq_zero_iff.1 (by omega)) hne
    · exact e
  obtain ⟨ad, rfl, _⟩ := q3 0 _ (g2 0 hpos)
  obtain ⟨ad2, rfl, hc2⟩ := r3 0 _ rfl
  have hsp : ad2.spot = none := by
    unfold World.cell? at hc2
    split at hc2
    · rename_i hh
      simp only [Addr.add] at hc2
      cases hs : ad2.spot with
      | none => rfl
      | some s => simp [hs] at hc2
    · cases hc2
  obtain ⟨b2, o2, s2⟩ := ad2
  simp only at hsp
  subst hsp
  have hc2' : w.cell? ⟨b2, o2, none⟩ = some (.int .u8 c) := by simpa [Addr.add] using hc2
  refine (Tryd.bytes_Index_one_at ad ns.length C b2 o2 C2 ns c w rfl (fun i hi => ?_) hc2').mono fun e w' ⟨h1, h2⟩ => ⟨_, h1, VR.scalar rfl, h2 ▸ Below.refl _ _⟩
  obtain ⟨ad', e1, e2⟩ := q3 i _ (g2 i hi)
  cases e1
  exact e2⟩
def pTrim (_ : Nat) (xs : Array Value) (_ : St) : Option Value := match xs with
  | ⟨[.string s, .string c]⟩ => if s.size ≤ 9223372036854775807 ∧ c = ⟨#[32, 9]⟩ then some (.string (trimB s)) else none
  | _ => none
theorem still_trim (k : Nat) : Still Tryd.prog 55 (pTrim k) := ⟨fun xs S v h ρ w ys hrel hxs => by
  unfold pTrim at h
  split at h
  case h_2 => cases h
  rename_i s c
  split at h
  case isFalse => cases h
  rename_i hc
  obtain ⟨hs, rfl⟩ := hc
  cases h
  obtain ⟨y, ys', hy, h4, h5⟩ := hxs.uncons
  obtain ⟨z, zs', rfl, h6, h7⟩ := h5.uncons
  obtain rfl := h7.of_nil
  obtain rfl := h4.leaf_eq rfl
  obtain rfl := h6.leaf_eq rfl
  obtain rfl : ys = #[.string s, .string ⟨#[32, 9]⟩] := Array.ext' hy
  refine (Any.strings_Trim_laid Tryd.lays160 (by kernel_rfl) s ⟨#[32, 9]⟩ w hs (by decide) (Go.Proofs.ascii_of_all (by decide))).mono ?_
  rintro e w' ⟨rfl, hb⟩
  exact ⟨_, rfl, VR.scalar rfl, hb⟩⟩
def primL : List (FuncId × (Nat → Array Value → St → Option Value)) := [(68, pIdxS), (60, pIdxB), (88, pIdx1), (55, pTrim)]
def prims0 : Prims := stills primL
theorem prims0_sim : PrimSim Tryd.prog prims0 := stills_sim fun x hx k => by
  simp only [primL, List.mem_cons, List.not_mem_nil, or_false] at hx
  rcases hx with rfl | rfl | rfl | rfl
  · exact still_idxS k
  · exact still_idxB k
  · exact still_idx1 k
  · exact still_trim k
end Go.Proofs.YtdfgdpjlbcnkfaaDoor.Q
namespace Go.Proofs.YtdfgdpjlbcnkfaaDoor.Q
open Go Go.Proofs.YtdfgdpjlbcnkfaaDoorAbs Go.Proofs Go.RowKit
set_option linter.unusedVariables false
set_option linter.unusedSimpArgs false
set_option maxRecDepth 1000000
theorem nglob : Tryd.prog.globals.size = 7 := by kernel_rfl
def tab64 : List Value := [0, 1, 56, 2, 57, 49, 28, 3, 61, 58, 42, 50, 38, 29, 17, 4, 62, 47, 59, 36, 45, 43, 51, 22, 53, 39, 33, 30, 24, 18, 12, 5, 63, 55, 48, 27, 60, 41, 37, 16, 46, 35, 44, 21, 52, 32, 23, 11, 54, 26, 40, 15, 34, 20, 31, 10, 25, 14, 19, 9, 13, 8, 7, 6].map (Value.int .u8)
def gl64 : Nat → Option (List Value) := fun | 6 => some tab64 | _ => none
def isTrue (r : Option (Value × St)) : Bool := match r with | some (.bool true, _) => true | _ => false
theorem works_run : isTrue (acall Tryd.prog prims0 60 14 #[] (St.start 7 gl64)) = true := by kernel_rfl
end Go.Proofs.YtdfgdpjlbcnkfaaDoor.Q
namespace Go.Proofs.YtdfgdpjlbcnkfaaDoor.Q
open Go Go.Proofs.YtdfgdpjlbcnkfaaDoorAbs Go.Proofs
set_option linter.unusedVariables false
set_option linter.unusedSimpArgs false
set_option maxRecDepth 100000
set_option maxHeartbeats 4000000
attribute [local irreducible] Go.Proofs.YtdfgdpjlbcnkfaaDoorAbs.O Go.Proofs.YtdfgdpjlbcnkfaaDoorAbs.W Go.Proofs.YtdfgdpjlbcnkfaaDoorAbs.C Go.Proofs.YtdfgdpjlbcnkfaaDoorAbs.OK Go.Proofs.YtdfgdpjlbcnkfaaDoorAbs.OKF Go.Proofs.YtdfgdpjlbcnkfaaDoorAbs.OKT Go.Proofs.YtdfgdpjlbcnkfaaDoorAbs.then_ Go.Proofs.YtdfgdpjlbcnkfaaDoorAbs.inBlock_ Go.Proofs.YtdfgdpjlbcnkfaaDoorAbs.bodyQ Go.Proofs.YtdfgdpjlbcnkfaaDoorAbs.Cont
section
variable {I : Prims} {S : St} {Q : Value → St → Prop}
theorem feed_append : ∀ (xs ys : List UInt8) (r : PRd), feedF r (xs ++ ys) = if (feedF r xs).1 < xs.length then feedF r xs else
    (xs.length + (feedF (feedF r xs).2.2 ys).1, (feedF r xs).2.1 ++ (feedF (feedF r xs).2.2 ys).2.1, (feedF (feedF r xs).2.2 ys).2.2)
  | [], ys, r => by simp [feedF]
  | c :: l, ys, r => by
    rw [List.cons_append]
    by_cases h : r.err ≠ none ∨ r.state = 8
    · unfold feedF
      rw [if_pos h, if_pos h]
      simp
    · have ih := feed_append l ys (byteF r c)
      have e1 : feedF r (c :: (l ++ ys)) = ((feedF (byteF r c) (l ++ ys)).1 + 1, outF r c ++ (feedF (byteF r c) (l ++ ys)).2.1, (feedF (byteF r c) (l ++ ys)).2.2) := by
        conv => lhs; unfold feedF
        rw [if_neg h]
      have e2 : feedF r (c :: l) = ((feedF (byteF r c) l).1 + 1, outF r c ++ (feedF (byteF r c) l).2.1, (feedF (byteF r c) l).2.2) := by
        conv => lhs; unfold feedF
        rw [if_neg h]
      rw [e1, e2, ih]
      simp only [List.length_cons]
      by_cases hl : (feedF (byteF r c) l).1 < l.length
      · rw [if_pos hl, if_pos (by omega)]
      · rw [if_neg hl, if_neg (by omega)]
        simp only [List.append_assoc, Prod.mk.injEq, and_true]
        omega
theorem conv_any {v : Value} {xs : List UInt8} (hO : Own 5 1 S v xs.length (u8v xs)) : alt (aconvert Tryd.prog S 22 9 v) (lift S (cvX Tryd.prog 22 9 v)) = some (.string ⟨xs.toArray⟩, S) := by
  rcases hO.2.2 with ⟨rfl, h0⟩ | ⟨b, m, rfl, h1, h2, h3, h4⟩
  · have : xs = [] := List.length_eq_zero_iff.1 h0
    subst this
    have e1 : aconvert Tryd.prog S 22 9 (.slice none 0 0) = none := by simp [aconvert, u22, u9]
    have e2 : cvX Tryd.prog 22 9 (.slice none 0 0) = some (.string ⟨#[]⟩) := by kernel_rfl
    rw [e1, e2]
    rfl
  · have hl : (u8v xs).length = xs.length := by simp [u8v]
    rw [hl] at h2 ⊢
    rw [conv_own (o := 0) (k := xs.length) h1 h2 (by omega)]
    simp [alt]
end
end Go.Proofs.YtdfgdpjlbcnkfaaDoor.Q
namespace Go.Proofs.YtdfgdpjlbcnkfaaDoor.Q
open Go Go.Proofs.YtdfgdpjlbcnkfaaDoorAbs Go.Proofs
set_option linter.unusedVariables false
set_option linter.unusedSimpArgs false
set_option maxRecDepth 100000
set_option maxHeartbeats 4000000
attribute [local irreducible] Go.Proofs.YtdfgdpjlbcnkfaaDoorAbs.O Go.Proofs.YtdfgdpjlbcnkfaaDoorAbs.W Go.Proofs.YtdfgdpjlbcnkfaaDoorAbs.C Go.Proofs.YtdfgdpjlbcnkfaaDoorAbs.OK Go.Proofs.YtdfgdpjlbcnkfaaDoorAbs.OKF Go.Proofs.YtdfgdpjlbcnkfaaDoorAbs.OKT Go.Proofs.YtdfgdpjlbcnkfaaDoorAbs.then_ Go.Proofs.YtdfgdpjlbcnkfaaDoorAbs.inBlock_ Go.Proofs.YtdfgdpjlbcnkfaaDoorAbs.bodyQ Go.Proofs.YtdfgdpjlbcnkfaaDoorAbs.Cont
section
variable {I : Prims} {S : St} {Q : Value → St → Prop}
end
end Go.Proofs.YtdfgdpjlbcnkfaaDoor.Q
namespace Go.Proofs.YtdfgdpjlbcnkfaaDoor.Q
open Go Go.Proofs.YtdfgdpjlbcnkfaaDoorAbs Go.Proofs
set_option linter.unusedVariables false
set_option linter.unusedSimpArgs false
set_option maxRecDepth 100000
set_option maxHeartbeats 4000000
attribute [local irreducible] Go.Proofs.YtdfgdpjlbcnkfaaDoorAbs.O Go.Proofs.YtdfgdpjlbcnkfaaDoorAbs.W Go.Proofs.YtdfgdpjlbcnkfaaDoorAbs.C Go.Proofs.YtdfgdpjlbcnkfaaDoorAbs.OK Go.Proofs.YtdfgdpjlbcnkfaaDoorAbs.OKF Go.Proofs.YtdfgdpjlbcnkfaaDoorAbs.OKT Go.Proofs.YtdfgdpjlbcnkfaaDoorAbs.then_ Go.Proofs.YtdfgdpjlbcnkfaaDoorAbs.inBlock_ Go.Proofs.YtdfgdpjlbcnkfaaDoorAbs.bodyQ Go.Proofs.YtdfgdpjlbcnkfaaDoorAbs.Cont
section
variable {I : Prims} {S : St} {Q : Value → St → Prop}
theorem ba_append (a b : List UInt8) : ((⟨a.toArray⟩ : ByteArray) ++ (⟨b.toArray⟩ : ByteArray)) = ⟨(a ++ b).toArray⟩ := by
  apply ByteArray.ext
  simp
end
end Go.Proofs.YtdfgdpjlbcnkfaaDoor.Q
namespace Go.Proofs.YtdfgdpjlbcnkfaaDoor.Q
open Go Go.Proofs.YtdfgdpjlbcnkfaaDoorAbs Go.Proofs
set_option linter.unusedVariables false
set_option linter.unusedSimpArgs false
set_option maxRecDepth 100000
set_option maxHeartbeats 4000000
attribute [local irreducible] Go.Proofs.YtdfgdpjlbcnkfaaDoorAbs.O Go.Proofs.YtdfgdpjlbcnkfaaDoorAbs.W Go.Proofs.YtdfgdpjlbcnkfaaDoorAbs.C Go.Proofs.YtdfgdpjlbcnkfaaDoorAbs.OK Go.Proofs.YtdfgdpjlbcnkfaaDoorAbs.OKF Go.Proofs.YtdfgdpjlbcnkfaaDoorAbs.OKT Go.Proofs.YtdfgdpjlbcnkfaaDoorAbs.then_ Go.Proofs.YtdfgdpjlbcnkfaaDoorAbs.inBlock_ Go.Proofs.YtdfgdpjlbcnkfaaDoorAbs.bodyQ Go.Proofs.YtdfgdpjlbcnkfaaDoorAbs.Cont
structure HW (I : Prims) : Prop extends HI I where
  works : ∀ (S : St) (Q : Value → St → Prop), S.get 6 = some ⟨tab64, 0, false, 0⟩ → Q (.bool true) S → C Tryd.prog I 14 #[] S Q
section
variable {I : Prims} {S : St} {Q : Value → St → Prop}
theorem fresh_inv {most : Int} (h0 : ¬ (most < 0 ∨ 1099511627776 < most)) : RInv (CR.fresh [] [] most) :=
  ⟨by simp only [CR.fresh]; omega, by simp only [CR.fresh]; omega, by simp [CR.fresh], by simp [CR.fresh], by simp [CR.fresh], by simp [CR.fresh], by simp [CR.fresh], by simp [CR.fresh], by simp [CR.fresh], by simp [CR.fresh], by simp [CR.fresh]⟩
theorem fresh_rd {S : St} {b : Nat} {most : Int} (hb : S.get b = some ⟨(CR.fresh (.slice none 0 0) (.slice none 0 0) most).cells, 62, true, 0⟩) (hn : b < S.next) : Rd S b (CR.fresh [] [] most) (.slice none 0 0) (.slice none 0 0) 0 :=
  ⟨hb, Nat.zero_le _, hn, Own.nil _ _ _, Own.nil _ _ _, by simp [blkOf], by simp [blkOf], .inl rfl⟩
theorem sl_own {S : St} {v : Value} {xs : List UInt8} (h : Own 5 1 S v xs.length (u8v xs)) : Sl S v xs := by
  have hl : (u8v xs).length = xs.length := by simp [u8v]
  rcases h.2.2 with ⟨rfl, h0⟩ | ⟨b, m, rfl, h1, h2, h3, h4⟩
  · exact ⟨none, 0, by rw [h0], fun _ => rfl, fun q => absurd (List.length_eq_zero_iff.1 h0) q⟩
  · rw [hl] at h2 ⊢
    exact ⟨_, _, rfl, fun q => (by cases q), fun _ => ⟨b, 0, xs.length, u8v xs, 5, true, m, rfl, .inl rfl, h1, fun _ => ⟨h2, by omega⟩, by rw [List.drop_zero, ← hl, List.take_length], h3⟩⟩
theorem sl_sub {S : St} {b o L c k j : Nat} {xs : List UInt8} (h : Sl S (.slice (some ⟨b, o, some L⟩) xs.length c) xs) (hcU : c = UNK + 1) (hk : k + j ≤ xs.length) : Sl S (.slice (some ⟨b, o + k, some L⟩) j c) ((xs.drop k).take j) := by
  have hl : ((xs.drop k).take j).length = j := by simp; omega
  obtain ⟨a, c', e, h0, h1⟩ := h
  cases e
  refine ⟨_, _, by rw [hl], fun q => (by cases q), fun hne => ?_⟩
  have hj : 0 < j := by
    rcases Nat.eq_zero_or_pos j with q | q
    · subst q; simp at hne
    · exact q
  obtain ⟨b', o', L', cs, el, own, m, e1, e2, e3, e4, e5, e6⟩ := h1 (fun q => by rw [q] at hk; simp at hk; omega)
  cases e1
  refine ⟨b, o + k, L, cs, el, own, m, rfl, .inl hcU, e3, fun q => ⟨(e4 q).1, by have := (e4 q).2; rw [hl]; omega⟩, ?_, e6⟩
  rw [hl, ← List.drop_drop]
  have : u8v ((xs.drop k).take j) = ((u8v xs).drop k).take j := by simp [u8v, List.map_drop, List.map_take]
  rw [this, ← e5, List.drop_take, List.take_take, Nat.min_eq_left (by omega)]
theorem feed_out : ∀ (xs : List UInt8) (r : PRd), (feedF r xs).2.1.length ≤ xs.length
  | [], r => Nat.le_refl _
  | c :: l, r => by
    unfold feedF
    split
    · simp
    · have := feed_out l (byteF r c)
      simp only [List.length_append, List.length_cons]
      have : (outF r c).length ≤ 1 := by unfold outF; split <;> simp
      omega
theorem aslice_to {b o n j : Nat} {s : Option Nat} : ∀ hj : j ≤ n, aslice Tryd.prog 22 (.slice (some ⟨b, o, s⟩) n (UNK + 1)) none (some (.int .i64 (j : Int))) none = some (.slice (some ⟨b, o, s⟩) j (UNK + 1)) := fun hj => by
  rw [aslice_h u22 sz5 (by omega) (by omega)]; simp
theorem aslice_from {b o n j : Nat} {s : Option Nat} (hj : j ≤ n) : aslice Tryd.prog 22 (.slice (some ⟨b, o, s⟩) n (UNK + 1)) (some (.int .i64 (j : Int))) none none = some (.slice (some ⟨b, o + j, s⟩) (n - j) (UNK + 1)) := by
  rw [aslice_l u22 sz5 (by omega) (by omega)]; simp
end
end Go.Proofs.YtdfgdpjlbcnkfaaDoor.Q
namespace Go.Proofs.YtdfgdpjlbcnkfaaDoor.Q
open Go Go.Proofs.YtdfgdpjlbcnkfaaDoorAbs Go.Proofs
set_option linter.unusedVariables false
set_option linter.unusedSimpArgs false
set_option maxRecDepth 100000
set_option maxHeartbeats 4000000
attribute [local irreducible] Go.Proofs.YtdfgdpjlbcnkfaaDoorAbs.O Go.Proofs.YtdfgdpjlbcnkfaaDoorAbs.W Go.Proofs.YtdfgdpjlbcnkfaaDoorAbs.C Go.Proofs.YtdfgdpjlbcnkfaaDoorAbs.OK Go.Proofs.YtdfgdpjlbcnkfaaDoorAbs.OKF Go.Proofs.YtdfgdpjlbcnkfaaDoorAbs.OKT Go.Proofs.YtdfgdpjlbcnkfaaDoorAbs.then_ Go.Proofs.YtdfgdpjlbcnkfaaDoorAbs.inBlock_ Go.Proofs.YtdfgdpjlbcnkfaaDoorAbs.bodyQ Go.Proofs.YtdfgdpjlbcnkfaaDoorAbs.Cont
section
variable {I : Prims} {S : St} {Q : Value → St → Prop}
def validB (k l : Int) : Bool := if k = 1 then decide (0 ≤ l) && decide (l ≤ 1099511627776) else if k = 0 ∨ k = 2 ∨ k = 3 then decide (l = 0) else false
theorem valid_C (h : HI I) {k l : Int} (hQ : ∀ S', Kept S S' none → Q (.bool (validB k l)) S') : C Tryd.prog I 51 #[.agg #[.int .i64 k, .int .i64 l]] S Q := by
  refine C_body (rs := [.tmp 2]) (h.no 51 (by decide)) Tryd.func51 rfl rfl ok51 ?_
  obtain ⟨u22, sz5, u5, u9, u3, u29, u34, u33, sz3, u4, u41, sz66, u46, sz28, u47, u52, sz22, sz62, sz24, sz59, u59, sz60, u60, sz41, sz58, u58, sz73, sz34, sz4, sz9, sz83, u88, sz86, u112, sz118, u118, u2, sz126, u126, u21, sz130, u130, u139, u140, sz141, u141, u145, u148, sz147, u154, u155⟩ := UF
  repeat' (first
    | (with_reducible first | refine W_pushC fun K hK => ?_ | refine W_blockI ?_ | refine W_scopeI ?_ | refine W_labelI ?_ | refine W_skipI ?_ | refine W_retI ?_ | refine W_exitI ?_ | refine then_normalI ?_ | refine then_retI ?_ | refine then_exitI ?_ | refine inBlock_normalI ?_ | refine inBlock_retI ?_ | refine inBlock_exitI ?_ | refine inBlock_exitN (by decide) ?_)
    | ((with_reducible first | refine bodyQ_normal0 ?_ | refine bodyQ_normal1 ?_ | refine bodyQ_normal2 ?_ | refine bodyQ_normal3 ?_ | refine bodyQ_normal4 ?_ | refine bodyQ_ret0 ?_ | refine bodyQ_ret1 ?_ | refine bodyQ_ret2 ?_ | refine bodyQ_ret3 ?_ | refine bodyQ_ret4 ?_); (try simp only [EVB, Nat.reduceEqDiff, reduceIte]))
    | (with_reducible refine Cont.use (by assumption) ?_)
    | (with_reducible first | refine hcA ?_ | refine hcB ?_)
    | ((with_reducible first | refine W_condG fun cA cB hcA hcB => ?_ | refine W_regionI ?_ | show O _ _ _ _ _ _ _ _ | show OK _ _ _ _ _ _ _ _ _ | show OKF _ _ _ _ _ _ _ _ _ _ | show OKT _ _ _ _ _ _ _ _ _ _ _ _ | show _ ∧ _ | show CG _ _ _ | show CB _ _ _); simp (disch := first | ((with_reducible show isStop _ = false); rfl) | ((with_reducible show isP _ = true); rfl) | ((with_reducible show (isStop _ || isP _) = false); rfl) | assumption | (simp only [GSB, Nat.reduceEqDiff, reduceIte]; done) | omega | (with_reducible decide) | (simp only [DSB, Go.Proofs.YtdfgdpjlbcnkfaaDoorAbs.oneC, Nat.reduceAdd, Nat.reduceLeDiff] <;> omega)) only [↓DN, ↓reduceIte, UP, CGB, Int.reduceEq, Int.reduceLT, Int.reduceLE, Nat.reduceEqDiff, Nat.reduceAdd, Nat.reduceMul, Nat.reduceSub, Int.reduceToNat, Nat.reduceLeDiff, PF, isStop, isP, goInt, beq_self_eq_true, decide_true, decide_false, Int.toNat_natCast, Int.natCast_zero, nn_eq, nn_ne])
    | ((with_reducible refine CB_intro (fun ht => hcA ?_) (fun ht => hcB ?_)) <;> (first | (simp only [Bool.true_eq_false, Bool.false_eq_true] at ht; done) | ((try simp only [Bool.not_eq_true', Bool.not_eq_false'] at ht); (try simp only [ht]); (try simp only [HTN] at ht); (try (exfalso; omega)))))
    | ((with_reducible refine W_regionI ?_); simp only [List.append_eq, List.cons_append, List.nil_append])
    | (with_reducible refine O_splitG fun cA cB hcA hcB => ?_)
    | ((refine qq (hQ _ (Kept.push _ none)) ?_ rfl; grind [validB])))
end
end Go.Proofs.YtdfgdpjlbcnkfaaDoor.Q
namespace Go.Proofs.YtdfgdpjlbcnkfaaDoor.Q
open Go Go.Proofs.YtdfgdpjlbcnkfaaDoorAbs Go.Proofs
set_option linter.unusedVariables false
set_option linter.unusedSimpArgs false
set_option maxRecDepth 100000
set_option maxHeartbeats 4000000
attribute [local irreducible] Go.Proofs.YtdfgdpjlbcnkfaaDoorAbs.O Go.Proofs.YtdfgdpjlbcnkfaaDoorAbs.W Go.Proofs.YtdfgdpjlbcnkfaaDoorAbs.C Go.Proofs.YtdfgdpjlbcnkfaaDoorAbs.OK Go.Proofs.YtdfgdpjlbcnkfaaDoorAbs.OKF Go.Proofs.YtdfgdpjlbcnkfaaDoorAbs.OKT Go.Proofs.YtdfgdpjlbcnkfaaDoorAbs.then_ Go.Proofs.YtdfgdpjlbcnkfaaDoorAbs.inBlock_ Go.Proofs.YtdfgdpjlbcnkfaaDoorAbs.bodyQ Go.Proofs.YtdfgdpjlbcnkfaaDoorAbs.Cont
def geB : Blk := ⟨[.iface 102 (.agg #[.pointer (some ⟨7, 24, some 0⟩)])], 0, false, 0⟩
structure HB (I : Prims) : Prop extends HW I where
  digits : ∀ (S : St) (n : Int) (Q : Value → St → Prop), 0 ≤ n → n < 18446744073709551616 → (∀ s, Q (.string s) S) → C Tryd.prog I 65 #[.int .u64 n, .int .u64 10] S Q
  num13 : ∀ (S : St) (e : Option Int) (Q : Value → St → Prop), S.get 0 = some geB → Q (.int .i64 (numF e)) S → C Tryd.prog I 22 #[errW e] S Q
  sure : ∀ (S : St) (Q : Value → St → Prop), Q (.bool true) S → C Tryd.prog I 11 #[] S Q
section
variable {I : Prims} {S : St} {Q : Value → St → Prop}
theorem Text_C (h : HB I) {n : Int} (h0 : 0 ≤ n) (h1 : n ≤ 9223372036854775807) (hQ : ∀ s, Q (.string s) S) : C Tryd.prog I 53 #[.int .i64 n] S Q := by
  refine C_body (rs := [.tmp 2]) (h.no 53 (by decide)) Tryd.func53 rfl rfl ok53 ?_
  obtain ⟨u22, sz5, u5, u9, u3, u29, u34, u33, sz3, u4, u41, sz66, u46, sz28, u47, u52, sz22, sz62, sz24, sz59, u59, sz60, u60, sz41, sz58, u58, sz73, sz34, sz4, sz9, sz83, u88, sz86, u112, sz118, u118, u2, sz126, u126, u21, sz130, u130, u139, u140, sz141, u141, u145, u148, sz147, u154, u155⟩ := UF
  have hd : decide (n < 0) = false := decide_eq_false (by omega)
  have w : IntKind.u64.wrap n = n := Go.Proofs.YtdfgdpjlbcnkfaaDoorAbs.wpu64 h0 (by omega)
  repeat' (first
    | (with_reducible first | refine W_pushC fun K hK => ?_ | refine W_blockI ?_ | refine W_scopeI ?_ | refine W_labelI ?_ | refine W_skipI ?_ | refine W_retI ?_ | refine W_exitI ?_ | refine then_normalI ?_ | refine then_retI ?_ | refine then_exitI ?_ | refine inBlock_normalI ?_ | refine inBlock_retI ?_ | refine inBlock_exitI ?_ | refine inBlock_exitN (by decide) ?_)
    | ((with_reducible first | refine bodyQ_normal0 ?_ | refine bodyQ_normal1 ?_ | refine bodyQ_normal2 ?_ | refine bodyQ_normal3 ?_ | refine bodyQ_normal4 ?_ | refine bodyQ_ret0 ?_ | refine bodyQ_ret1 ?_ | refine bodyQ_ret2 ?_ | refine bodyQ_ret3 ?_ | refine bodyQ_ret4 ?_); (try simp only [EVB, Nat.reduceEqDiff, reduceIte]))
    | ((with_reducible show C _ _ _ _ _ _); first | (refine h.digits _ _ _ h0 (by omega) (fun s => ?_)))
    | (with_reducible refine Cont.use (by assumption) ?_)
    | (with_reducible first | refine hcA ?_ | refine hcB ?_)
    | ((with_reducible first | refine W_condG fun cA cB hcA hcB => ?_ | refine W_regionI ?_ | show O _ _ _ _ _ _ _ _ | show OK _ _ _ _ _ _ _ _ _ | show OKF _ _ _ _ _ _ _ _ _ _ | show OKT _ _ _ _ _ _ _ _ _ _ _ _ | show _ ∧ _ | show CG _ _ _ | show CB _ _ _); simp (disch := first | ((with_reducible show isStop _ = false); rfl) | ((with_reducible show isP _ = true); rfl) | ((with_reducible show (isStop _ || isP _) = false); rfl) | assumption | (simp only [GSB, Nat.reduceEqDiff, reduceIte]; done) | omega | (with_reducible decide) | (simp only [DSB, Go.Proofs.YtdfgdpjlbcnkfaaDoorAbs.oneC, Nat.reduceAdd, Nat.reduceLeDiff] <;> omega)) only [↓DN, ↓reduceIte, UP, CGB, Int.reduceEq, Int.reduceLT, Int.reduceLE, Nat.reduceEqDiff, Nat.reduceAdd, Nat.reduceMul, Nat.reduceSub, Int.reduceToNat, Nat.reduceLeDiff, PF, isStop, isP, goInt, beq_self_eq_true, decide_true, decide_false, Int.toNat_natCast, Int.natCast_zero, nn_eq, nn_ne, hd, w])
    | ((with_reducible refine CB_intro (fun ht => hcA ?_) (fun ht => hcB ?_)) <;> (first | (simp only [Bool.true_eq_false, Bool.false_eq_true] at ht; done) | ((try simp only [Bool.not_eq_true', Bool.not_eq_false'] at ht); (try simp only [ht]); (try simp only [HTN] at ht); (try (exfalso; omega)))))
    | ((with_reducible refine W_regionI ?_); simp only [List.append_eq, List.cons_append, List.nil_append])
    | (with_reducible refine O_splitG fun cA cB hcA hcB => ?_)
    | (exact hQ _))
theorem Fields_C (h : HB I) {k l : Int} (hQ0 : validB k l = false → ∀ S', Kept S S' none → Q (.tuple #[.slice none 0 0, .iface 58 (.int .i64 1)]) S') (hQ1 : validB k l = true → ∀ v S', Kept S S' none → Q (.tuple #[v, .nilIface]) S') :
    C Tryd.prog I 36 #[.slice none 0 0, .agg #[.int .i64 k, .int .i64 l]] S Q := by
  refine C_body (rs := [.tmp 4, .tmp 5]) (h.no 36 (by decide)) Tryd.func36 rfl rfl ok36 ?_
  obtain ⟨u22, sz5, u5, u9, u3, u29, u34, u33, sz3, u4, u41, sz66, u46, sz28, u47, u52, sz22, sz62, sz24, sz59, u59, sz60, u60, sz41, sz58, u58, sz73, sz34, sz4, sz9, sz83, u88, sz86, u112, sz118, u118, u2, sz126, u126, u21, sz130, u130, u139, u140, sz141, u141, u145, u148, sz147, u154, u155⟩ := UF
  cases hv : validB k l
  · repeat' (first
    | (with_reducible first | refine W_pushC fun K hK => ?_ | refine W_blockI ?_ | refine W_scopeI ?_ | refine W_labelI ?_ | refine W_skipI ?_ | refine W_retI ?_ | refine W_exitI ?_ | refine then_normalI ?_ | refine then_retI ?_ | refine then_exitI ?_ | refine inBlock_normalI ?_ | refine inBlock_retI ?_ | refine inBlock_exitI ?_ | refine inBlock_exitN (by decide) ?_)
    | ((with_reducible first | refine bodyQ_normal0 ?_ | refine bodyQ_normal1 ?_ | refine bodyQ_normal2 ?_ | refine bodyQ_normal3 ?_ | refine bodyQ_normal4 ?_ | refine bodyQ_ret0 ?_ | refine bodyQ_ret1 ?_ | refine bodyQ_ret2 ?_ | refine bodyQ_ret3 ?_ | refine bodyQ_ret4 ?_); (try simp only [EVB, Nat.reduceEqDiff, reduceIte]))
    | ((with_reducible show C _ _ _ _ _ _); first | (refine valid_C h.toHI (fun S1 hK1 => ?_)))
    | (with_reducible refine Cont.use (by assumption) ?_)
    | (with_reducible first | refine hcA ?_ | refine hcB ?_)
    | ((with_reducible first | refine W_condG fun cA cB hcA hcB => ?_ | refine W_regionI ?_ | show O _ _ _ _ _ _ _ _ | show OK _ _ _ _ _ _ _ _ _ | show OKF _ _ _ _ _ _ _ _ _ _ | show OKT _ _ _ _ _ _ _ _ _ _ _ _ | show _ ∧ _ | show CG _ _ _ | show CB _ _ _); simp (disch := first | ((with_reducible show isStop _ = false); rfl) | ((with_reducible show isP _ = true); rfl) | ((with_reducible show (isStop _ || isP _) = false); rfl) | assumption | (simp only [GSB, Nat.reduceEqDiff, reduceIte]; done) | omega | (with_reducible decide) | (simp only [DSB, Go.Proofs.YtdfgdpjlbcnkfaaDoorAbs.oneC, Nat.reduceAdd, Nat.reduceLeDiff] <;> omega)) only [↓DN, ↓reduceIte, UP, CGB, Int.reduceEq, Int.reduceLT, Int.reduceLE, Nat.reduceEqDiff, Nat.reduceAdd, Nat.reduceMul, Nat.reduceSub, Int.reduceToNat, Nat.reduceLeDiff, PF, isStop, isP, goInt, beq_self_eq_true, decide_true, decide_false, Int.toNat_natCast, Int.natCast_zero, nn_eq, nn_ne, hv])
    | ((with_reducible refine CB_intro (fun ht => hcA ?_) (fun ht => hcB ?_)) <;> (first | (simp only [Bool.true_eq_false, Bool.false_eq_true] at ht; done) | ((try simp only [Bool.not_eq_true', Bool.not_eq_false'] at ht); (try simp only [ht]); (try simp only [HTN] at ht); (try (exfalso; omega)))))
    | ((with_reducible refine W_regionI ?_); simp only [List.append_eq, List.cons_append, List.nil_append])
    | (with_reducible refine O_splitG fun cA cB hcA hcB => ?_)
    | (exact hQ0 hv _ ((Kept.push _ none).trans hK1)))
  repeat' (first
    | (with_reducible first | refine W_pushC fun K hK => ?_ | refine W_blockI ?_ | refine W_scopeI ?_ | refine W_labelI ?_ | refine W_skipI ?_ | refine W_retI ?_ | refine W_exitI ?_ | refine then_normalI ?_ | refine then_retI ?_ | refine then_exitI ?_ | refine inBlock_normalI ?_ | refine inBlock_retI ?_ | refine inBlock_exitI ?_ | refine inBlock_exitN (by decide) ?_)
    | ((with_reducible first | refine bodyQ_normal0 ?_ | refine bodyQ_normal1 ?_ | refine bodyQ_normal2 ?_ | refine bodyQ_normal3 ?_ | refine bodyQ_normal4 ?_ | refine bodyQ_ret0 ?_ | refine bodyQ_ret1 ?_ | refine bodyQ_ret2 ?_ | refine bodyQ_ret3 ?_ | refine bodyQ_ret4 ?_); (try simp only [EVB, Nat.reduceEqDiff, reduceIte]))
    | ((with_reducible show C _ _ _ _ _ _); first | (refine valid_C h.toHI (fun S1 hK1 => ?_)))
    | (with_reducible refine Cont.use (by assumption) ?_)
    | (with_reducible first | refine hcA ?_ | refine hcB ?_)
    | ((with_reducible first | refine W_condG fun cA cB hcA hcB => ?_ | refine W_regionI ?_ | show O _ _ _ _ _ _ _ _ | show OK _ _ _ _ _ _ _ _ _ | show OKF _ _ _ _ _ _ _ _ _ _ | show OKT _ _ _ _ _ _ _ _ _ _ _ _ | show _ ∧ _ | show CG _ _ _ | show CB _ _ _); simp (disch := first | ((with_reducible show isStop _ = false); rfl) | ((with_reducible show isP _ = true); rfl) | ((with_reducible show (isStop _ || isP _) = false); rfl) | assumption | (simp only [GSB, Nat.reduceEqDiff, reduceIte]; done) | omega | (with_reducible decide) | (simp only [DSB, Go.Proofs.YtdfgdpjlbcnkfaaDoorAbs.oneC, Nat.reduceAdd, Nat.reduceLeDiff] <;> omega)) only [↓DN, ↓reduceIte, UP, CGB, Int.reduceEq, Int.reduceLT, Int.reduceLE, Nat.reduceEqDiff, Nat.reduceAdd, Nat.reduceMul, Nat.reduceSub, Int.reduceToNat, Nat.reduceLeDiff, PF, isStop, isP, goInt, beq_self_eq_true, decide_true, decide_false, Int.toNat_natCast, Int.natCast_zero, nn_eq, nn_ne, hv])
    | ((with_reducible refine CB_intro (fun ht => hcA ?_) (fun ht => hcB ?_)) <;> (first | (simp only [Bool.true_eq_false, Bool.false_eq_true] at ht; done) | ((try simp only [Bool.not_eq_true', Bool.not_eq_false'] at ht); (try simp only [ht]); (try simp only [HTN] at ht); (try (exfalso; omega)))))
    | ((with_reducible refine W_regionI ?_); simp only [List.append_eq, List.cons_append, List.nil_append])
    | (with_reducible refine O_splitG fun cA cB hcA hcB => ?_))
  have g1 : S1.get S.next = some ⟨[.int .i64 k, .int .i64 l], 28, true, 0⟩ := (hK1.2 S.next (Nat.lt_succ_self _) (by simp)).trans (S.get_push_self _)
  have kk : Kept S S1 none := (Kept.push _ none).trans hK1
  have hl1 : k = 1 → 0 ≤ l ∧ l ≤ 1099511627776 := fun q => by subst q; simpa [validB] using hv
  refine W_loop (fun n e S' => e.get 3 = .pointer (some ⟨S.next, 0, some 2⟩) ∧ e.get 6 = .slice none 0 0 ∧ e.get 14 = .int .i64 0 ∧ e.get 15 = .int .i64 0 ∧ S' = S1) 0 ⟨by simp only [EVB, Nat.reduceEqDiff, reduceIte], by simp only [EVB, Nat.reduceEqDiff, reduceIte], by simp only [EVB, Nat.reduceEqDiff, reduceIte], by simp only [EVB, Nat.reduceEqDiff, reduceIte], rfl⟩ ?_
  rintro n e S1' ⟨e3, e6, e14, e15, rfl⟩
  by_cases k1 : k = 1
  · have hl2 := hl1 k1
    subst k1
    repeat' (first
    | (with_reducible first | refine W_pushC fun K hK => ?_ | refine W_blockI ?_ | refine W_scopeI ?_ | refine W_labelI ?_ | refine W_skipI ?_ | refine W_retI ?_ | refine W_exitI ?_ | refine then_normalI ?_ | refine then_retI ?_ | refine then_exitI ?_ | refine inBlock_normalI ?_ | refine inBlock_retI ?_ | refine inBlock_exitI ?_ | refine inBlock_exitN (by decide) ?_)
    | ((with_reducible first | refine bodyQ_normal0 ?_ | refine bodyQ_normal1 ?_ | refine bodyQ_normal2 ?_ | refine bodyQ_normal3 ?_ | refine bodyQ_normal4 ?_ | refine bodyQ_ret0 ?_ | refine bodyQ_ret1 ?_ | refine bodyQ_ret2 ?_ | refine bodyQ_ret3 ?_ | refine bodyQ_ret4 ?_); (try simp only [EVB, Nat.reduceEqDiff, reduceIte]))
    | ((with_reducible show C _ _ _ _ _ _); first | (refine Text_C h hl2.1 (by omega) (fun s => ?_)))
    | (with_reducible refine Cont.use (by assumption) ?_)
    | ((refine O_append (P := Tryd.prog) (elem := 66) (size := 2) (bytes := 32) (n := 0) (m := 1) (xs := []) (ys := [.string _, .string _]) u41 sz66 by66 ze66 ⟨by decide, by decide, rfl⟩ (by simp only [EVB, Nat.reduceEqDiff, reduceIte, e6]; exact Own.nil _ _ _) (by simp only [EVB, Nat.reduceEqDiff, reduceIte]; exact asrc_own_lit u41 (St.get_push_self _ _) (Nat.zero_le _) rfl rfl) ⟨rfl, rfl⟩ (by decide) (fun v1 S3 hO hKp hB => ?_)); (simp only [EVB, Nat.reduceEqDiff, reduceIte, e6] at hKp))
    | (with_reducible first | refine hcA ?_ | refine hcB ?_)
    | ((with_reducible first | refine W_condG fun cA cB hcA hcB => ?_ | refine W_regionI ?_ | show O _ _ _ _ _ _ _ _ | show OK _ _ _ _ _ _ _ _ _ | show OKF _ _ _ _ _ _ _ _ _ _ | show OKT _ _ _ _ _ _ _ _ _ _ _ _ | show _ ∧ _ | show CG _ _ _ | show CB _ _ _); simp (disch := first | ((with_reducible show isStop _ = false); rfl) | ((with_reducible show isP _ = true); rfl) | ((with_reducible show (isStop _ || isP _) = false); rfl) | assumption | (simp only [GSB, Nat.reduceEqDiff, reduceIte]; done) | omega | (with_reducible decide) | (simp only [DSB, Go.Proofs.YtdfgdpjlbcnkfaaDoorAbs.oneC, Nat.reduceAdd, Nat.reduceLeDiff] <;> omega)) only [↓DN, ↓reduceIte, UP, CGB, Int.reduceEq, Int.reduceLT, Int.reduceLE, Nat.reduceEqDiff, Nat.reduceAdd, Nat.reduceMul, Nat.reduceSub, Int.reduceToNat, Nat.reduceLeDiff, PF, isStop, isP, goInt, beq_self_eq_true, decide_true, decide_false, Int.toNat_natCast, Int.natCast_zero, nn_eq, nn_ne, e3, e6, e14, e15, g1])
    | ((with_reducible refine CB_intro (fun ht => hcA ?_) (fun ht => hcB ?_)) <;> (first | (simp only [Bool.true_eq_false, Bool.false_eq_true] at ht; done) | ((try simp only [Bool.not_eq_true', Bool.not_eq_false'] at ht); (try simp only [ht]); (try simp only [HTN] at ht); (try (exfalso; omega)))))
    | ((with_reducible refine W_regionI ?_); simp only [List.append_eq, List.cons_append, List.nil_append])
    | (with_reducible refine O_splitG fun cA cB hcA hcB => ?_)
    | (exact hQ1 hv _ _ (((kk.trans (Kept.push _ none))).trans hKp)))
  by_cases k2 : k = 2
  · subst k2
    repeat' (first
    | (with_reducible first | refine W_pushC fun K hK => ?_ | refine W_blockI ?_ | refine W_scopeI ?_ | refine W_labelI ?_ | refine W_skipI ?_ | refine W_retI ?_ | refine W_exitI ?_ | refine then_normalI ?_ | refine then_retI ?_ | refine then_exitI ?_ | refine inBlock_normalI ?_ | refine inBlock_retI ?_ | refine inBlock_exitI ?_ | refine inBlock_exitN (by decide) ?_)
    | ((with_reducible first | refine bodyQ_normal0 ?_ | refine bodyQ_normal1 ?_ | refine bodyQ_normal2 ?_ | refine bodyQ_normal3 ?_ | refine bodyQ_normal4 ?_ | refine bodyQ_ret0 ?_ | refine bodyQ_ret1 ?_ | refine bodyQ_ret2 ?_ | refine bodyQ_ret3 ?_ | refine bodyQ_ret4 ?_); (try simp only [EVB, Nat.reduceEqDiff, reduceIte]))
    | (with_reducible refine Cont.use (by assumption) ?_)
    | ((refine O_append (P := Tryd.prog) (elem := 66) (size := 2) (bytes := 32) (n := 0) (m := 1) (xs := []) (ys := [.string _, .string _]) u41 sz66 by66 ze66 ⟨by decide, by decide, rfl⟩ (by simp only [EVB, Nat.reduceEqDiff, reduceIte, e6]; exact Own.nil _ _ _) (by simp only [EVB, Nat.reduceEqDiff, reduceIte]; exact asrc_own_lit u41 (St.get_push_self _ _) (Nat.zero_le _) rfl rfl) ⟨rfl, rfl⟩ (by decide) (fun v1 S3 hO hKp hB => ?_)); (simp only [EVB, Nat.reduceEqDiff, reduceIte, e6] at hKp))
    | (with_reducible first | refine hcA ?_ | refine hcB ?_)
    | ((with_reducible first | refine W_condG fun cA cB hcA hcB => ?_ | refine W_regionI ?_ | show O _ _ _ _ _ _ _ _ | show OK _ _ _ _ _ _ _ _ _ | show OKF _ _ _ _ _ _ _ _ _ _ | show OKT _ _ _ _ _ _ _ _ _ _ _ _ | show _ ∧ _ | show CG _ _ _ | show CB _ _ _); simp (disch := first | ((with_reducible show isStop _ = false); rfl) | ((with_reducible show isP _ = true); rfl) | ((with_reducible show (isStop _ || isP _) = false); rfl) | assumption | (simp only [GSB, Nat.reduceEqDiff, reduceIte]; done) | omega | (with_reducible decide) | (simp only [DSB, Go.Proofs.YtdfgdpjlbcnkfaaDoorAbs.oneC, Nat.reduceAdd, Nat.reduceLeDiff] <;> omega)) only [↓DN, ↓reduceIte, UP, CGB, Int.reduceEq, Int.reduceLT, Int.reduceLE, Nat.reduceEqDiff, Nat.reduceAdd, Nat.reduceMul, Nat.reduceSub, Int.reduceToNat, Nat.reduceLeDiff, PF, isStop, isP, goInt, beq_self_eq_true, decide_true, decide_false, Int.toNat_natCast, Int.natCast_zero, nn_eq, nn_ne, e3, e6, e14, e15, g1])
    | ((with_reducible refine CB_intro (fun ht => hcA ?_) (fun ht => hcB ?_)) <;> (first | (simp only [Bool.true_eq_false, Bool.false_eq_true] at ht; done) | ((try simp only [Bool.not_eq_true', Bool.not_eq_false'] at ht); (try simp only [ht]); (try simp only [HTN] at ht); (try (exfalso; omega)))))
    | ((with_reducible refine W_regionI ?_); simp only [List.append_eq, List.cons_append, List.nil_append])
    | (with_reducible refine O_splitG fun cA cB hcA hcB => ?_)
    | (exact hQ1 hv _ _ (((kk.trans (Kept.push _ none))).trans hKp)))
  · have d1 : decide (k = 1) = false := decide_eq_false k1
    have d2 : decide (k = 2) = false := decide_eq_false k2
    repeat' (first
    | (with_reducible first | refine W_pushC fun K hK => ?_ | refine W_blockI ?_ | refine W_scopeI ?_ | refine W_labelI ?_ | refine W_skipI ?_ | refine W_retI ?_ | refine W_exitI ?_ | refine then_normalI ?_ | refine then_retI ?_ | refine then_exitI ?_ | refine inBlock_normalI ?_ | refine inBlock_retI ?_ | refine inBlock_exitI ?_ | refine inBlock_exitN (by decide) ?_)
    | ((with_reducible first | refine bodyQ_normal0 ?_ | refine bodyQ_normal1 ?_ | refine bodyQ_normal2 ?_ | refine bodyQ_normal3 ?_ | refine bodyQ_normal4 ?_ | refine bodyQ_ret0 ?_ | refine bodyQ_ret1 ?_ | refine bodyQ_ret2 ?_ | refine bodyQ_ret3 ?_ | refine bodyQ_ret4 ?_); (try simp only [EVB, Nat.reduceEqDiff, reduceIte]))
    | (with_reducible refine Cont.use (by assumption) ?_)
    | (with_reducible first | refine hcA ?_ | refine hcB ?_)
    | ((with_reducible first | refine W_condG fun cA cB hcA hcB => ?_ | refine W_regionI ?_ | show O _ _ _ _ _ _ _ _ | show OK _ _ _ _ _ _ _ _ _ | show OKF _ _ _ _ _ _ _ _ _ _ | show OKT _ _ _ _ _ _ _ _ _ _ _ _ | show _ ∧ _ | show CG _ _ _ | show CB _ _ _); simp (disch := first | ((with_reducible show isStop _ = false); rfl) | ((with_reducible show isP _ = true); rfl) | ((with_reducible show (isStop _ || isP _) = false); rfl) | assumption | (simp only [GSB, Nat.reduceEqDiff, reduceIte]; done) | omega | (with_reducible decide) | (simp only [DSB, Go.Proofs.YtdfgdpjlbcnkfaaDoorAbs.oneC, Nat.reduceAdd, Nat.reduceLeDiff] <;> omega)) only [↓DN, ↓reduceIte, UP, CGB, Int.reduceEq, Int.reduceLT, Int.reduceLE, Nat.reduceEqDiff, Nat.reduceAdd, Nat.reduceMul, Nat.reduceSub, Int.reduceToNat, Nat.reduceLeDiff, PF, isStop, isP, goInt, beq_self_eq_true, decide_true, decide_false, Int.toNat_natCast, Int.natCast_zero, nn_eq, nn_ne, e3, e6, e14, e15, g1, d1, d2])
    | ((with_reducible refine CB_intro (fun ht => hcA ?_) (fun ht => hcB ?_)) <;> (first | (simp only [Bool.true_eq_false, Bool.false_eq_true] at ht; done) | ((try simp only [Bool.not_eq_true', Bool.not_eq_false'] at ht); (try simp only [ht]); (try simp only [HTN] at ht); (try (exfalso; omega)))))
    | ((with_reducible refine W_regionI ?_); simp only [List.append_eq, List.cons_append, List.nil_append])
    | (with_reducible refine O_splitG fun cA cB hcA hcB => ?_)
    | (exact hQ1 hv _ _ kk))
end
end Go.Proofs.YtdfgdpjlbcnkfaaDoor.Q
namespace Go.Proofs.YtdfgdpjlbcnkfaaDoor.Q
open Go Go.Proofs.YtdfgdpjlbcnkfaaDoorAbs Go.Proofs
set_option linter.unusedVariables false
set_option linter.unusedSimpArgs false
set_option maxRecDepth 100000
set_option maxHeartbeats 4000000
attribute [local irreducible] Go.Proofs.YtdfgdpjlbcnkfaaDoorAbs.O Go.Proofs.YtdfgdpjlbcnkfaaDoorAbs.W Go.Proofs.YtdfgdpjlbcnkfaaDoorAbs.C Go.Proofs.YtdfgdpjlbcnkfaaDoorAbs.OK Go.Proofs.YtdfgdpjlbcnkfaaDoorAbs.OKF Go.Proofs.YtdfgdpjlbcnkfaaDoorAbs.OKT Go.Proofs.YtdfgdpjlbcnkfaaDoorAbs.then_ Go.Proofs.YtdfgdpjlbcnkfaaDoorAbs.inBlock_ Go.Proofs.YtdfgdpjlbcnkfaaDoorAbs.bodyQ Go.Proofs.YtdfgdpjlbcnkfaaDoorAbs.Cont
structure BR where
  kind : Int
  length : Int
  most : Int
  len : Int
  done : Bool
  err : Option Int
def BR.cells (r : BR) (ch : Value) : List Value := [.int .i64 r.kind, .int .i64 r.length, .int .i64 r.most, .int .i64 r.len, ch, .bool r.done, errW r.err]
def BR.fresh (k l most : Int) : BR := ⟨k, l, most, 0, decide (k = 0) || (decide (k = 1) && decide (l = 0)), none⟩
def boundB (most : Int) : Int := if most < 0 ∨ 1099511627776 < most then 1099511627776 else most
section
variable {I : Prims} {S : St} {Q : Value → St → Prop}
theorem bd73 : ∀ (k l m : Int) (d : Bool), abuild Tryd.prog 73 #[(0, .agg #[.int .i64 k, .int .i64 l]), (1, .int .i64 m), (4, .bool d)] = some (.agg #[.int .i64 k, .int .i64 l, .int .i64 m, .int .i64 0, .pointer none, .bool d, .nilIface]) := by intros; kernel_rfl
theorem BNew_C' (h : HB I) {k l most : Int}
    (hbad : (validB k l = false ∨ most < -1) → ∀ S', Kept S S' none → Q (.tuple #[.pointer none, .iface 58 (.int .i64 1)]) S')
    (hbig : validB k l = true → (k = 1 ∧ 0 ≤ most ∧ most < l) → ∀ S', Kept S S' none → Q (.tuple #[.pointer none, .iface 58 (.int .i64 33)]) S')
    (hok : validB k l = true → -1 ≤ most → ¬ (k = 1 ∧ 0 ≤ most ∧ most < l) → ¬ k = 2 → ∀ S' b m, Kept S S' none → S.next ≤ b → b < S'.next → m ≤ 7 → S'.get b = some ⟨(BR.fresh k l most).cells (.pointer none), 73, true, m⟩ → Q (.tuple #[.pointer (some ⟨b, 0, some 7⟩), .nilIface]) S')
    (hch : validB k l = true → -1 ≤ most → k = 2 → ∀ S' b m bc, Kept S S' none → S.next ≤ b → b < S'.next → m ≤ 7 → S'.get b = some ⟨(BR.fresh k l most).cells (.pointer (some ⟨bc, 0, some 11⟩)), 73, true, m⟩ → S.next ≤ bc → bc ≠ b → bc < S'.next →
      S'.get bc = some ⟨(CR.fresh (.slice none 0 0) (.slice none 0 0) (boundB most)).cells, 62, true, 0⟩ → Q (.tuple #[.pointer (some ⟨b, 0, some 7⟩), .nilIface]) S') :
    C Tryd.prog I 23 #[.agg #[.int .i64 k, .int .i64 l], .int .i64 most] S Q := by
  refine C_body (rs := [.tmp 4, .tmp 5]) (h.no 23 (by decide)) Tryd.func23 rfl rfl ok23 ?_
  obtain ⟨u22, sz5, u5, u9, u3, u29, u34, u33, sz3, u4, u41, sz66, u46, sz28, u47, u52, sz22, sz62, sz24, sz59, u59, sz60, u60, sz41, sz58, u58, sz73, sz34, sz4, sz9, sz83, u88, sz86, u112, sz118, u118, u2, sz126, u126, u21, sz130, u130, u139, u140, sz141, u141, u145, u148, sz147, u154, u155⟩ := UF
  have ki := ki24
  cases hv : validB k l
  · repeat' (first
    | (with_reducible first | refine W_pushC fun K hK => ?_ | refine W_blockI ?_ | refine W_scopeI ?_ | refine W_labelI ?_ | refine W_skipI ?_ | refine W_retI ?_ | refine W_exitI ?_ | refine then_normalI ?_ | refine then_retI ?_ | refine then_exitI ?_ | refine inBlock_normalI ?_ | refine inBlock_retI ?_ | refine inBlock_exitI ?_ | refine inBlock_exitN (by decide) ?_)
    | ((with_reducible first | refine bodyQ_normal0 ?_ | refine bodyQ_normal1 ?_ | refine bodyQ_normal2 ?_ | refine bodyQ_normal3 ?_ | refine bodyQ_normal4 ?_ | refine bodyQ_ret0 ?_ | refine bodyQ_ret1 ?_ | refine bodyQ_ret2 ?_ | refine bodyQ_ret3 ?_ | refine bodyQ_ret4 ?_); (try simp only [EVB, Nat.reduceEqDiff, reduceIte]))
    | ((with_reducible show C _ _ _ _ _ _); first | (refine Fields_C h (fun q S1 hK1 => ?_) (fun q => absurd q (by rw [hv]; decide))))
    | (with_reducible refine Cont.use (by assumption) ?_)
    | (with_reducible first | refine hcA ?_ | refine hcB ?_)
    | ((with_reducible first | refine W_condG fun cA cB hcA hcB => ?_ | refine W_regionI ?_ | show O _ _ _ _ _ _ _ _ | show OK _ _ _ _ _ _ _ _ _ | show OKF _ _ _ _ _ _ _ _ _ _ | show OKT _ _ _ _ _ _ _ _ _ _ _ _ | show _ ∧ _ | show CG _ _ _ | show CB _ _ _); simp (disch := first | ((with_reducible show isStop _ = false); rfl) | ((with_reducible show isP _ = true); rfl) | ((with_reducible show (isStop _ || isP _) = false); rfl) | assumption | (simp only [GSB, Nat.reduceEqDiff, reduceIte]; done) | omega | (with_reducible decide) | (simp only [DSB, Go.Proofs.YtdfgdpjlbcnkfaaDoorAbs.oneC, Nat.reduceAdd, Nat.reduceLeDiff] <;> omega)) only [↓DN, ↓reduceIte, UP, CGB, Int.reduceEq, Int.reduceLT, Int.reduceLE, Nat.reduceEqDiff, Nat.reduceAdd, Nat.reduceMul, Nat.reduceSub, Int.reduceToNat, Nat.reduceLeDiff, PF, isStop, isP, goInt, beq_self_eq_true, decide_true, decide_false, Int.toNat_natCast, Int.natCast_zero, nn_eq, nn_ne])
    | ((with_reducible refine CB_intro (fun ht => hcA ?_) (fun ht => hcB ?_)) <;> (first | (simp only [Bool.true_eq_false, Bool.false_eq_true] at ht; done) | ((try simp only [Bool.not_eq_true', Bool.not_eq_false'] at ht); (try simp only [ht]); (try simp only [HTN] at ht); (try (exfalso; omega)))))
    | ((with_reducible refine W_regionI ?_); simp only [List.append_eq, List.cons_append, List.nil_append])
    | (with_reducible refine O_splitG fun cA cB hcA hcB => ?_)
    | (exact hbad (.inl hv) _ ((Kept.push _ none).trans hK1)))
  by_cases hm1 : most < -1
  · have d0 : decide (most < -1) = true := decide_eq_true hm1
    repeat' (first
    | (with_reducible first | refine W_pushC fun K hK => ?_ | refine W_blockI ?_ | refine W_scopeI ?_ | refine W_labelI ?_ | refine W_skipI ?_ | refine W_retI ?_ | refine W_exitI ?_ | refine then_normalI ?_ | refine then_retI ?_ | refine then_exitI ?_ | refine inBlock_normalI ?_ | refine inBlock_retI ?_ | refine inBlock_exitI ?_ | refine inBlock_exitN (by decide) ?_)
    | ((with_reducible first | refine bodyQ_normal0 ?_ | refine bodyQ_normal1 ?_ | refine bodyQ_normal2 ?_ | refine bodyQ_normal3 ?_ | refine bodyQ_normal4 ?_ | refine bodyQ_ret0 ?_ | refine bodyQ_ret1 ?_ | refine bodyQ_ret2 ?_ | refine bodyQ_ret3 ?_ | refine bodyQ_ret4 ?_); (try simp only [EVB, Nat.reduceEqDiff, reduceIte]))
    | ((with_reducible show C _ _ _ _ _ _); first | (refine Fields_C h (fun q => absurd q (by rw [hv]; decide)) (fun q vv S1 hK1 => ?_)))
    | (with_reducible refine Cont.use (by assumption) ?_)
    | (with_reducible first | refine hcA ?_ | refine hcB ?_)
    | ((with_reducible first | refine W_condG fun cA cB hcA hcB => ?_ | refine W_regionI ?_ | show O _ _ _ _ _ _ _ _ | show OK _ _ _ _ _ _ _ _ _ | show OKF _ _ _ _ _ _ _ _ _ _ | show OKT _ _ _ _ _ _ _ _ _ _ _ _ | show _ ∧ _ | show CG _ _ _ | show CB _ _ _); simp (disch := first | ((with_reducible show isStop _ = false); rfl) | ((with_reducible show isP _ = true); rfl) | ((with_reducible show (isStop _ || isP _) = false); rfl) | assumption | (simp only [GSB, Nat.reduceEqDiff, reduceIte]; done) | omega | (with_reducible decide) | (simp only [DSB, Go.Proofs.YtdfgdpjlbcnkfaaDoorAbs.oneC, Nat.reduceAdd, Nat.reduceLeDiff] <;> omega)) only [↓DN, ↓reduceIte, UP, CGB, Int.reduceEq, Int.reduceLT, Int.reduceLE, Nat.reduceEqDiff, Nat.reduceAdd, Nat.reduceMul, Nat.reduceSub, Int.reduceToNat, Nat.reduceLeDiff, PF, isStop, isP, goInt, beq_self_eq_true, decide_true, decide_false, Int.toNat_natCast, Int.natCast_zero, nn_eq, nn_ne, d0])
    | ((with_reducible refine CB_intro (fun ht => hcA ?_) (fun ht => hcB ?_)) <;> (first | (simp only [Bool.true_eq_false, Bool.false_eq_true] at ht; done) | ((try simp only [Bool.not_eq_true', Bool.not_eq_false'] at ht); (try simp only [ht]); (try simp only [HTN] at ht); (try (exfalso; omega)))))
    | ((with_reducible refine W_regionI ?_); simp only [List.append_eq, List.cons_append, List.nil_append])
    | (with_reducible refine O_splitG fun cA cB hcA hcB => ?_)
    | (exact hbad (.inr hm1) _ ((Kept.push _ none).trans hK1)))
  have d0 : decide (most < -1) = false := decide_eq_false hm1
  repeat' (first
    | (with_reducible first | refine W_pushC fun K hK => ?_ | refine W_blockI ?_ | refine W_scopeI ?_ | refine W_labelI ?_ | refine W_skipI ?_ | refine W_retI ?_ | refine W_exitI ?_ | refine then_normalI ?_ | refine then_retI ?_ | refine then_exitI ?_ | refine inBlock_normalI ?_ | refine inBlock_retI ?_ | refine inBlock_exitI ?_ | refine inBlock_exitN (by decide) ?_)
    | ((with_reducible first | refine bodyQ_normal0 ?_ | refine bodyQ_normal1 ?_ | refine bodyQ_normal2 ?_ | refine bodyQ_normal3 ?_ | refine bodyQ_normal4 ?_ | refine bodyQ_ret0 ?_ | refine bodyQ_ret1 ?_ | refine bodyQ_ret2 ?_ | refine bodyQ_ret3 ?_ | refine bodyQ_ret4 ?_); (try simp only [EVB, Nat.reduceEqDiff, reduceIte]))
    | ((with_reducible show C _ _ _ _ _ _); first | (refine Fields_C h (fun q => absurd q (by rw [hv]; decide)) (fun q vv S1 hK1 => ?_)))
    | (with_reducible refine Cont.use (by assumption) ?_)
    | (with_reducible first | refine hcA ?_ | refine hcB ?_)
    | ((with_reducible first | refine W_condG fun cA cB hcA hcB => ?_ | refine W_regionI ?_ | show O _ _ _ _ _ _ _ _ | show OK _ _ _ _ _ _ _ _ _ | show OKF _ _ _ _ _ _ _ _ _ _ | show OKT _ _ _ _ _ _ _ _ _ _ _ _ | show _ ∧ _ | show CG _ _ _ | show CB _ _ _); simp (disch := first | ((with_reducible show isStop _ = false); rfl) | ((with_reducible show isP _ = true); rfl) | ((with_reducible show (isStop _ || isP _) = false); rfl) | assumption | (simp only [GSB, Nat.reduceEqDiff, reduceIte]; done) | omega | (with_reducible decide) | (simp only [DSB, Go.Proofs.YtdfgdpjlbcnkfaaDoorAbs.oneC, Nat.reduceAdd, Nat.reduceLeDiff] <;> omega)) only [↓DN, ↓reduceIte, UP, CGB, Int.reduceEq, Int.reduceLT, Int.reduceLE, Nat.reduceEqDiff, Nat.reduceAdd, Nat.reduceMul, Nat.reduceSub, Int.reduceToNat, Nat.reduceLeDiff, PF, isStop, isP, goInt, beq_self_eq_true, decide_true, decide_false, Int.toNat_natCast, Int.natCast_zero, nn_eq, nn_ne, d0])
    | ((with_reducible refine CB_intro (fun ht => hcA ?_) (fun ht => hcB ?_)) <;> (first | (simp only [Bool.true_eq_false, Bool.false_eq_true] at ht; done) | ((try simp only [Bool.not_eq_true', Bool.not_eq_false'] at ht); (try simp only [ht]); (try simp only [HTN] at ht); (try (exfalso; omega)))))
    | ((with_reducible refine W_regionI ?_); simp only [List.append_eq, List.cons_append, List.nil_append])
    | (with_reducible refine O_splitG fun cA cB hcA hcB => ?_))
  have g1 : S1.get S.next = some ⟨[.int .i64 k, .int .i64 l], 28, true, 0⟩ := (hK1.2 S.next (Nat.lt_succ_self _) (by simp)).trans (S.get_push_self _)
  have n1 : S.next < S1.next := Nat.lt_of_lt_of_le (Nat.lt_succ_self _) hK1.1
  have kk : Kept S S1 none := (Kept.push _ none).trans hK1
  have hvk : k = 0 ∨ k = 1 ∨ k = 2 ∨ k = 3 := by unfold validB at hv; split at hv <;> (try split at hv) <;> simp_all <;> omega
  have ne1 : S.next ≠ S1.next := by omega
  have b1 : boundB most = if most < 0 ∨ 1099511627776 < most then 1099511627776 else most := rfl
  have gA : ∀ A B : Blk, ((S1.push A).push B).get S1.next = some A := fun A B => (St.get_push_lt _ B (Nat.lt_succ_self S1.next)).trans (St.get_push_self _ A)
  have gB : ∀ A B C : Blk, (((S1.push A).push B).upd S1.next C).get (S1.next + 1) = some B := fun A B C => (St.get_upd_ne _ C (Nat.succ_ne_self _)).trans (St.get_push_self _ B)
  have gC : ∀ A B C : Blk, (((S1.push A).push B).upd S1.next C).get S1.next = some C := fun A B C => St.get_upd_self _ _ C
  by_cases k2 : k = 2
  · subst k2
    repeat' (first
    | (with_reducible first | refine W_pushC fun K hK => ?_ | refine W_blockI ?_ | refine W_scopeI ?_ | refine W_labelI ?_ | refine W_skipI ?_ | refine W_retI ?_ | refine W_exitI ?_ | refine then_normalI ?_ | refine then_retI ?_ | refine then_exitI ?_ | refine inBlock_normalI ?_ | refine inBlock_retI ?_ | refine inBlock_exitI ?_ | refine inBlock_exitN (by decide) ?_)
    | ((with_reducible first | refine bodyQ_normal0 ?_ | refine bodyQ_normal1 ?_ | refine bodyQ_normal2 ?_ | refine bodyQ_normal3 ?_ | refine bodyQ_normal4 ?_ | refine bodyQ_ret0 ?_ | refine bodyQ_ret1 ?_ | refine bodyQ_ret2 ?_ | refine bodyQ_ret3 ?_ | refine bodyQ_ret4 ?_); (try simp only [EVB, Nat.reduceEqDiff, reduceIte]))
    | (with_reducible refine Cont.use (by assumption) ?_)
    | (with_reducible first | refine hcA ?_ | refine hcB ?_)
    | ((with_reducible first | refine W_condG fun cA cB hcA hcB => ?_ | refine W_regionI ?_ | show O _ _ _ _ _ _ _ _ | show OK _ _ _ _ _ _ _ _ _ | show OKF _ _ _ _ _ _ _ _ _ _ | show OKT _ _ _ _ _ _ _ _ _ _ _ _ | show _ ∧ _ | show CG _ _ _ | show CB _ _ _); simp (disch := first | ((with_reducible show isStop _ = false); rfl) | ((with_reducible show isP _ = true); rfl) | ((with_reducible show (isStop _ || isP _) = false); rfl) | assumption | (simp only [GSB, Nat.reduceEqDiff, reduceIte]; done) | omega | (with_reducible decide) | (simp only [DSB, Go.Proofs.YtdfgdpjlbcnkfaaDoorAbs.oneC, Nat.reduceAdd, Nat.reduceLeDiff] <;> omega)) only [↓DN, ↓reduceIte, UP, CGB, Int.reduceEq, Int.reduceLT, Int.reduceLE, Nat.reduceEqDiff, Nat.reduceAdd, Nat.reduceMul, Nat.reduceSub, Int.reduceToNat, Nat.reduceLeDiff, PF, isStop, isP, goInt, beq_self_eq_true, decide_true, decide_false, Int.toNat_natCast, Int.natCast_zero, nn_eq, nn_ne, g1, bd73, ne1])
    | ((with_reducible refine CB_intro (fun ht => hcA ?_) (fun ht => hcB ?_)) <;> (first | (simp only [Bool.true_eq_false, Bool.false_eq_true] at ht; done) | ((try simp only [Bool.not_eq_true', Bool.not_eq_false'] at ht); (try simp only [ht]); (try simp only [HTN] at ht); (try (exfalso; omega)))))
    | ((with_reducible refine W_regionI ?_); simp only [List.append_eq, List.cons_append, List.nil_append])
    | (with_reducible refine O_splitG fun cA cB hcA hcB => ?_))
    all_goals refine New_C h.toHI (fun _ => ?_) (fun q => absurd q (by omega))
    · rw [show (1099511627776 : Int) = boundB most by rw [b1]; split <;> omega]
      repeat' (first
    | (with_reducible first | refine W_pushC fun K hK => ?_ | refine W_blockI ?_ | refine W_scopeI ?_ | refine W_labelI ?_ | refine W_skipI ?_ | refine W_retI ?_ | refine W_exitI ?_ | refine then_normalI ?_ | refine then_retI ?_ | refine then_exitI ?_ | refine inBlock_normalI ?_ | refine inBlock_retI ?_ | refine inBlock_exitI ?_ | refine inBlock_exitN (by decide) ?_)
    | ((with_reducible first | refine bodyQ_normal0 ?_ | refine bodyQ_normal1 ?_ | refine bodyQ_normal2 ?_ | refine bodyQ_normal3 ?_ | refine bodyQ_normal4 ?_ | refine bodyQ_ret0 ?_ | refine bodyQ_ret1 ?_ | refine bodyQ_ret2 ?_ | refine bodyQ_ret3 ?_ | refine bodyQ_ret4 ?_); (try simp only [EVB, Nat.reduceEqDiff, reduceIte]))
    | (with_reducible refine Cont.use (by assumption) ?_)
    | (with_reducible first | refine hcA ?_ | refine hcB ?_)
    | ((with_reducible first | refine W_condG fun cA cB hcA hcB => ?_ | refine W_regionI ?_ | show O _ _ _ _ _ _ _ _ | show OK _ _ _ _ _ _ _ _ _ | show OKF _ _ _ _ _ _ _ _ _ _ | show OKT _ _ _ _ _ _ _ _ _ _ _ _ | show _ ∧ _ | show CG _ _ _ | show CB _ _ _); simp (disch := first | ((with_reducible show isStop _ = false); rfl) | ((with_reducible show isP _ = true); rfl) | ((with_reducible show (isStop _ || isP _) = false); rfl) | assumption | (simp only [GSB, Nat.reduceEqDiff, reduceIte]; done) | omega | (with_reducible decide) | (simp only [DSB, Go.Proofs.YtdfgdpjlbcnkfaaDoorAbs.oneC, Nat.reduceAdd, Nat.reduceLeDiff] <;> omega)) only [↓DN, ↓reduceIte, UP, CGB, Int.reduceEq, Int.reduceLT, Int.reduceLE, Nat.reduceEqDiff, Nat.reduceAdd, Nat.reduceMul, Nat.reduceSub, Int.reduceToNat, Nat.reduceLeDiff, PF, isStop, isP, goInt, beq_self_eq_true, decide_true, decide_false, Int.toNat_natCast, Int.natCast_zero, nn_eq, nn_ne, gA])
    | ((with_reducible refine CB_intro (fun ht => hcA ?_) (fun ht => hcB ?_)) <;> (first | (simp only [Bool.true_eq_false, Bool.false_eq_true] at ht; done) | ((try simp only [Bool.not_eq_true', Bool.not_eq_false'] at ht); (try simp only [ht]); (try simp only [HTN] at ht); (try (exfalso; omega)))))
    | ((with_reducible refine W_regionI ?_); simp only [List.append_eq, List.cons_append, List.nil_append])
    | (with_reducible refine O_splitG fun cA cB hcA hcB => ?_)
    | (exact hch hv (by omega) rfl _ _ 7 _ (((kk.trans (Kept.push _ none)).trans (Kept.push _ none)).upd (by have := kk.1; omega) _) (Nat.le_of_lt n1) (Nat.lt_succ_of_lt (Nat.lt_succ_self _)) (Nat.le_refl _) (gC _ _ _) (Nat.le_succ_of_le (Nat.le_of_lt n1)) (Nat.succ_ne_self _) (Nat.lt_succ_self _) (gB _ _ _)))
    · have hm : boundB most = most := by rw [b1]; split <;> omega
      have hch' := hch
      rw [hm] at hch'
      repeat' (first
    | (with_reducible first | refine W_pushC fun K hK => ?_ | refine W_blockI ?_ | refine W_scopeI ?_ | refine W_labelI ?_ | refine W_skipI ?_ | refine W_retI ?_ | refine W_exitI ?_ | refine then_normalI ?_ | refine then_retI ?_ | refine then_exitI ?_ | refine inBlock_normalI ?_ | refine inBlock_retI ?_ | refine inBlock_exitI ?_ | refine inBlock_exitN (by decide) ?_)
    | ((with_reducible first | refine bodyQ_normal0 ?_ | refine bodyQ_normal1 ?_ | refine bodyQ_normal2 ?_ | refine bodyQ_normal3 ?_ | refine bodyQ_normal4 ?_ | refine bodyQ_ret0 ?_ | refine bodyQ_ret1 ?_ | refine bodyQ_ret2 ?_ | refine bodyQ_ret3 ?_ | refine bodyQ_ret4 ?_); (try simp only [EVB, Nat.reduceEqDiff, reduceIte]))
    | (with_reducible refine Cont.use (by assumption) ?_)
    | (with_reducible first | refine hcA ?_ | refine hcB ?_)
    | ((with_reducible first | refine W_condG fun cA cB hcA hcB => ?_ | refine W_regionI ?_ | show O _ _ _ _ _ _ _ _ | show OK _ _ _ _ _ _ _ _ _ | show OKF _ _ _ _ _ _ _ _ _ _ | show OKT _ _ _ _ _ _ _ _ _ _ _ _ | show _ ∧ _ | show CG _ _ _ | show CB _ _ _); simp (disch := first | ((with_reducible show isStop _ = false); rfl) | ((with_reducible show isP _ = true); rfl) | ((with_reducible show (isStop _ || isP _) = false); rfl) | assumption | (simp only [GSB, Nat.reduceEqDiff, reduceIte]; done) | omega | (with_reducible decide) | (simp only [DSB, Go.Proofs.YtdfgdpjlbcnkfaaDoorAbs.oneC, Nat.reduceAdd, Nat.reduceLeDiff] <;> omega)) only [↓DN, ↓reduceIte, UP, CGB, Int.reduceEq, Int.reduceLT, Int.reduceLE, Nat.reduceEqDiff, Nat.reduceAdd, Nat.reduceMul, Nat.reduceSub, Int.reduceToNat, Nat.reduceLeDiff, PF, isStop, isP, goInt, beq_self_eq_true, decide_true, decide_false, Int.toNat_natCast, Int.natCast_zero, nn_eq, nn_ne, gA])
    | ((with_reducible refine CB_intro (fun ht => hcA ?_) (fun ht => hcB ?_)) <;> (first | (simp only [Bool.true_eq_false, Bool.false_eq_true] at ht; done) | ((try simp only [Bool.not_eq_true', Bool.not_eq_false'] at ht); (try simp only [ht]); (try simp only [HTN] at ht); (try (exfalso; omega)))))
    | ((with_reducible refine W_regionI ?_); simp only [List.append_eq, List.cons_append, List.nil_append])
    | (with_reducible refine O_splitG fun cA cB hcA hcB => ?_)
    | (exact hch' hv (by omega) rfl _ _ 7 _ (((kk.trans (Kept.push _ none)).trans (Kept.push _ none)).upd (by have := kk.1; omega) _) (Nat.le_of_lt n1) (Nat.lt_succ_of_lt (Nat.lt_succ_self _)) (Nat.le_refl _) (gC _ _ _) (Nat.le_succ_of_le (Nat.le_of_lt n1)) (Nat.succ_ne_self _) (Nat.lt_succ_self _) (gB _ _ _)))
    · rw [show (1099511627776 : Int) = boundB most by rw [b1]; split <;> omega]
      repeat' (first
    | (with_reducible first | refine W_pushC fun K hK => ?_ | refine W_blockI ?_ | refine W_scopeI ?_ | refine W_labelI ?_ | refine W_skipI ?_ | refine W_retI ?_ | refine W_exitI ?_ | refine then_normalI ?_ | refine then_retI ?_ | refine then_exitI ?_ | refine inBlock_normalI ?_ | refine inBlock_retI ?_ | refine inBlock_exitI ?_ | refine inBlock_exitN (by decide) ?_)
    | ((with_reducible first | refine bodyQ_normal0 ?_ | refine bodyQ_normal1 ?_ | refine bodyQ_normal2 ?_ | refine bodyQ_normal3 ?_ | refine bodyQ_normal4 ?_ | refine bodyQ_ret0 ?_ | refine bodyQ_ret1 ?_ | refine bodyQ_ret2 ?_ | refine bodyQ_ret3 ?_ | refine bodyQ_ret4 ?_); (try simp only [EVB, Nat.reduceEqDiff, reduceIte]))
    | (with_reducible refine Cont.use (by assumption) ?_)
    | (with_reducible first | refine hcA ?_ | refine hcB ?_)
    | ((with_reducible first | refine W_condG fun cA cB hcA hcB => ?_ | refine W_regionI ?_ | show O _ _ _ _ _ _ _ _ | show OK _ _ _ _ _ _ _ _ _ | show OKF _ _ _ _ _ _ _ _ _ _ | show OKT _ _ _ _ _ _ _ _ _ _ _ _ | show _ ∧ _ | show CG _ _ _ | show CB _ _ _); simp (disch := first | ((with_reducible show isStop _ = false); rfl) | ((with_reducible show isP _ = true); rfl) | ((with_reducible show (isStop _ || isP _) = false); rfl) | assumption | (simp only [GSB, Nat.reduceEqDiff, reduceIte]; done) | omega | (with_reducible decide) | (simp only [DSB, Go.Proofs.YtdfgdpjlbcnkfaaDoorAbs.oneC, Nat.reduceAdd, Nat.reduceLeDiff] <;> omega)) only [↓DN, ↓reduceIte, UP, CGB, Int.reduceEq, Int.reduceLT, Int.reduceLE, Nat.reduceEqDiff, Nat.reduceAdd, Nat.reduceMul, Nat.reduceSub, Int.reduceToNat, Nat.reduceLeDiff, PF, isStop, isP, goInt, beq_self_eq_true, decide_true, decide_false, Int.toNat_natCast, Int.natCast_zero, nn_eq, nn_ne, gA])
    | ((with_reducible refine CB_intro (fun ht => hcA ?_) (fun ht => hcB ?_)) <;> (first | (simp only [Bool.true_eq_false, Bool.false_eq_true] at ht; done) | ((try simp only [Bool.not_eq_true', Bool.not_eq_false'] at ht); (try simp only [ht]); (try simp only [HTN] at ht); (try (exfalso; omega)))))
    | ((with_reducible refine W_regionI ?_); simp only [List.append_eq, List.cons_append, List.nil_append])
    | (with_reducible refine O_splitG fun cA cB hcA hcB => ?_)
    | (exact hch hv (by omega) rfl _ _ 7 _ (((kk.trans (Kept.push _ none)).trans (Kept.push _ none)).upd (by have := kk.1; omega) _) (Nat.le_of_lt n1) (Nat.lt_succ_of_lt (Nat.lt_succ_self _)) (Nat.le_refl _) (gC _ _ _) (Nat.le_succ_of_le (Nat.le_of_lt n1)) (Nat.succ_ne_self _) (Nat.lt_succ_self _) (gB _ _ _)))
  · have d2 : decide (k = 2) = false := decide_eq_false k2
    repeat' (first
    | (with_reducible first | refine W_pushC fun K hK => ?_ | refine W_blockI ?_ | refine W_scopeI ?_ | refine W_labelI ?_ | refine W_skipI ?_ | refine W_retI ?_ | refine W_exitI ?_ | refine then_normalI ?_ | refine then_retI ?_ | refine then_exitI ?_ | refine inBlock_normalI ?_ | refine inBlock_retI ?_ | refine inBlock_exitI ?_ | refine inBlock_exitN (by decide) ?_)
    | ((with_reducible first | refine bodyQ_normal0 ?_ | refine bodyQ_normal1 ?_ | refine bodyQ_normal2 ?_ | refine bodyQ_normal3 ?_ | refine bodyQ_normal4 ?_ | refine bodyQ_ret0 ?_ | refine bodyQ_ret1 ?_ | refine bodyQ_ret2 ?_ | refine bodyQ_ret3 ?_ | refine bodyQ_ret4 ?_); (try simp only [EVB, Nat.reduceEqDiff, reduceIte]))
    | (with_reducible refine Cont.use (by assumption) ?_)
    | (with_reducible first | refine hcA ?_ | refine hcB ?_)
    | ((with_reducible first | refine W_condG fun cA cB hcA hcB => ?_ | refine W_regionI ?_ | show O _ _ _ _ _ _ _ _ | show OK _ _ _ _ _ _ _ _ _ | show OKF _ _ _ _ _ _ _ _ _ _ | show OKT _ _ _ _ _ _ _ _ _ _ _ _ | show _ ∧ _ | show CG _ _ _ | show CB _ _ _); simp (disch := first | ((with_reducible show isStop _ = false); rfl) | ((with_reducible show isP _ = true); rfl) | ((with_reducible show (isStop _ || isP _) = false); rfl) | assumption | (simp only [GSB, Nat.reduceEqDiff, reduceIte]; done) | omega | (with_reducible decide) | (simp only [DSB, Go.Proofs.YtdfgdpjlbcnkfaaDoorAbs.oneC, Nat.reduceAdd, Nat.reduceLeDiff] <;> omega)) only [↓DN, ↓reduceIte, UP, CGB, Int.reduceEq, Int.reduceLT, Int.reduceLE, Nat.reduceEqDiff, Nat.reduceAdd, Nat.reduceMul, Nat.reduceSub, Int.reduceToNat, Nat.reduceLeDiff, PF, isStop, isP, goInt, beq_self_eq_true, decide_true, decide_false, Int.toNat_natCast, Int.natCast_zero, nn_eq, nn_ne, g1, bd73, ne1, d2])
    | ((with_reducible refine CB_intro (fun ht => hcA ?_) (fun ht => hcB ?_)) <;> (first | (simp only [Bool.true_eq_false, Bool.false_eq_true] at ht; done) | ((try simp only [Bool.not_eq_true', Bool.not_eq_false'] at ht); (try simp only [ht]); (try simp only [HTN] at ht); (try (exfalso; omega)))))
    | ((with_reducible refine W_regionI ?_); simp only [List.append_eq, List.cons_append, List.nil_append])
    | (with_reducible refine O_splitG fun cA cB hcA hcB => ?_)
    | (exact hbig hv (by omega) _ kk))
    all_goals
      refine hok hv (by omega) (by omega) k2 _ _ 0 (kk.trans (Kept.push _ none)) (Nat.le_of_lt n1) (Nat.lt_succ_self _) (by omega) ?_
      rw [St.get_push_self]
      simp [BR.cells, BR.fresh, errW, *]
theorem BNew_C (h : HB I) {k l most : Int}
    (hbad : (validB k l = false ∨ most < -1) → ∀ S', Kept S S' none → Q (.tuple #[.pointer none, .iface 58 (.int .i64 1)]) S')
    (hbig : (k = 1 ∧ 0 ≤ most ∧ most < l) → ∀ S', Kept S S' none → Q (.tuple #[.pointer none, .iface 58 (.int .i64 33)]) S')
    (hok : validB k l = true → -1 ≤ most → ¬ (k = 1 ∧ 0 ≤ most ∧ most < l) → ¬ k = 2 → ∀ S' b m, Kept S S' none → S.next ≤ b → b < S'.next → m ≤ 7 → S'.get b = some ⟨(BR.fresh k l most).cells (.pointer none), 73, true, m⟩ → Q (.tuple #[.pointer (some ⟨b, 0, some 7⟩), .nilIface]) S')
    (hch : validB k l = true → -1 ≤ most → k = 2 → ∀ S' b m bc, Kept S S' none → S.next ≤ b → b < S'.next → m ≤ 7 → S'.get b = some ⟨(BR.fresh k l most).cells (.pointer (some ⟨bc, 0, some 11⟩)), 73, true, m⟩ → S.next ≤ bc → bc ≠ b → bc < S'.next →
      S'.get bc = some ⟨(CR.fresh (.slice none 0 0) (.slice none 0 0) (boundB most)).cells, 62, true, 0⟩ → Q (.tuple #[.pointer (some ⟨b, 0, some 7⟩), .nilIface]) S') :
    C Tryd.prog I 23 #[.agg #[.int .i64 k, .int .i64 l], .int .i64 most] S Q := by
  exact BNew_C' h hbad (fun _ => hbig) hok hch
end
end Go.Proofs.YtdfgdpjlbcnkfaaDoor.Q
namespace Go.Proofs.YtdfgdpjlbcnkfaaDoor.Q
open Go Go.Proofs.YtdfgdpjlbcnkfaaDoorAbs Go.Proofs
set_option linter.unusedVariables false
set_option linter.unusedSimpArgs false
set_option maxRecDepth 100000
set_option maxHeartbeats 4000000
attribute [local irreducible] Go.Proofs.YtdfgdpjlbcnkfaaDoorAbs.O Go.Proofs.YtdfgdpjlbcnkfaaDoorAbs.W Go.Proofs.YtdfgdpjlbcnkfaaDoorAbs.C Go.Proofs.YtdfgdpjlbcnkfaaDoorAbs.OK Go.Proofs.YtdfgdpjlbcnkfaaDoorAbs.OKF Go.Proofs.YtdfgdpjlbcnkfaaDoorAbs.OKT Go.Proofs.YtdfgdpjlbcnkfaaDoorAbs.then_ Go.Proofs.YtdfgdpjlbcnkfaaDoorAbs.inBlock_ Go.Proofs.YtdfgdpjlbcnkfaaDoorAbs.bodyQ Go.Proofs.YtdfgdpjlbcnkfaaDoorAbs.Cont
theorem sl_src {S : St} {v : Value} {xs : List UInt8} (hx : Sl S v xs) : asrc Tryd.prog S 22 1 v = some (xs.length, u8v xs) := by
  obtain ⟨a, c, rfl, hv0, hv⟩ := hx
  by_cases hne : xs = []
  · subst hne
    rcases a with _ | ⟨b, o, L⟩
    · rw [hv0 rfl]; simp [asrc, u22, u8v]
    · simp [asrc, u22, u8v]
  · obtain ⟨b, o, L, cs, el, own, m, rfl, _, h1, h2, h3, h4⟩ := hv hne
    have hpos : 0 < xs.length := List.length_pos_iff.2 hne
    simp only [asrc, u22]
    rw [if_neg (by omega)]
    have : aread S ⟨b, o, some L⟩ (xs.length * 1) = some (u8v xs) := by
      have hlen := congrArg List.length h3
      simp [u8v] at hlen
      unfold aread
      simp only [h1]
      rw [if_pos ⟨fun q => ⟨(h2 q).1, by have := (h2 q).2; show o + xs.length * 1 ≤ L; omega⟩, by show o + xs.length * 1 ≤ cs.length; omega⟩, Nat.mul_one, h3]
    simp only [this]
    rw [if_pos (u8v_one _)]
def Sv (v : Value) (xs : List UInt8) : Prop := v = .slice none 0 0 ∧ xs = [] ∨ ∃ b o L, v = .slice (some ⟨b, o, some L⟩) xs.length (UNK + 1)
theorem sv_own {S : St} {v : Value} {xs : List UInt8} (h : Own 5 1 S v xs.length (u8v xs)) : Sv v xs := by
  have hl : (u8v xs).length = xs.length := by simp [u8v]
  rcases h.2.2 with ⟨rfl, h0⟩ | ⟨b, m, rfl, _⟩
  · exact .inl ⟨rfl, List.length_eq_zero_iff.1 h0⟩
  · exact .inr ⟨_, _, _, by rw [← hl]⟩
theorem sl_pre {S : St} {v : Value} {xs : List UInt8} {j : Nat} (hx : Sl S v xs) (hs : Sv v xs) (hj : j ≤ xs.length) : ∃ v', aslice Tryd.prog 22 v none (some (.int .i64 (j : Int))) none = some v' ∧ asrc Tryd.prog S 22 1 v' = some (j, u8v (xs.take j)) := by
  rcases hs with ⟨rfl, rfl⟩ | ⟨b, o, L, rfl⟩
  · have : j = 0 := by simpa using hj
    subst this
    exact ⟨.slice none 0 0, by simp [aslice, anat, abounds, asub, u22, sz5, UNK], by simp [asrc, u22, u8v]⟩
  · refine ⟨_, aslice_to hj, ?_⟩
    have := sl_sub (k := 0) (j := j) hx rfl (by omega)
    rw [List.drop_zero, Nat.add_zero] at this
    have hl : (xs.take j).length = j := by simp; omega
    rw [sl_src this, hl]
def feedB (r : BR) (xs : List UInt8) : Int × List UInt8 × BR :=
  if r.done = true ∨ r.err.isSome = true then (0, [], r)
  else if r.kind = 1 then
    let n : Int := if r.length - r.len < (xs.length : Int) then r.length - r.len else xs.length
    (n, xs.take n.toNat, { r with len := r.len + n, done := decide (r.len + n = r.length) })
  else if 0 ≤ r.most ∧ r.most - r.len < xs.length then (r.most - r.len + 1, xs.take (r.most - r.len).toNat, { r with len := r.most, err := some 33 })
  else (xs.length, xs, { r with len := r.len + xs.length })
structure BInv (r : BR) : Prop where
  l0 : 0 ≤ r.len
  l1 : r.len ≤ 4398046511104
  length : r.kind = 1 → r.len ≤ r.length ∧ r.length ≤ 1099511627776 ∧ (0 ≤ r.most → r.length ≤ r.most)
  most : 0 ≤ r.most → r.len ≤ r.most ∧ r.most ≤ 9223372036854775807
theorem kept_upd {S S2 : St} {b : Nat} (h : Kept S S2 none) (B : Blk) : Kept S (S2.upd b B) (some b) := by
  refine ⟨h.1, fun i hi ho => ?_⟩
  rw [St.get_upd_ne _ _ (fun e => ho (by rw [e]))]
  exact h.2 i hi (by simp)
theorem own_updB {S : St} {el sz n b : Nat} {v : Value} {xs : List Value} (h : Own el sz S v n xs) (hv : blkOf v ≠ some b) (B : Blk) : Own el sz (S.upd b B) v n xs :=
  h.kept (kept_upd ⟨Nat.le_refl _, fun _ _ _ => rfl⟩ B) (.inr (fun e => hv e.symm))
section
variable {I : Prims} {S : St} {Q : Value → St → Prop}
theorem BFeed_C (h : HB I) {b m : Nat} {r : BR} {v : Value} {xs : List UInt8} (hb : S.get b = some ⟨r.cells (.pointer none), 73, true, m⟩) (hm : m ≤ 7) (hnb : b < S.next) (hk : r.kind ≠ 2) (hi : BInv r) (hx : Sl S v xs) (hs : Sv v xs) (hxn : xs.length ≤ 1099511627776)
    (hQ : ∀ S' m' ov, S'.get b = some ⟨(feedB r xs).2.2.cells (.pointer none), 73, true, m'⟩ → m' ≤ 7 → Kept S S' (some b) → Own 5 1 S' ov (feedB r xs).2.1.length (u8v (feedB r xs).2.1) → (∀ i, blkOf ov = some i → S.next ≤ i) →
      Q (.tuple #[.int .i64 (feedB r xs).1, ov, .bool (feedB r xs).2.2.done, errW (feedB r xs).2.2.err]) S') :
    C Tryd.prog I 24 #[.pointer (some ⟨b, 0, some 7⟩), v] S Q := by
  refine C_body (rs := [.tmp 4, .tmp 5, .tmp 6, .tmp 7]) (h.no 24 (by decide)) Tryd.func24 rfl rfl ok24 ?_
  obtain ⟨u22, sz5, u5, u9, u3, u29, u34, u33, sz3, u4, u41, sz66, u46, sz28, u47, u52, sz22, sz62, sz24, sz59, u59, sz60, u60, sz41, sz58, u58, sz73, sz34, sz4, sz9, sz83, u88, sz86, u112, sz118, u118, u2, sz126, u126, u21, sz130, u130, u139, u140, sz141, u141, u145, u148, sz147, u154, u155⟩ := UF
  have hb0 := hb
  simp only [BR.cells] at hb
  by_cases hstop : r.done = true ∨ r.err.isSome = true
  · have hf : feedB r xs = (0, [], r) := by unfold feedB; rw [if_pos hstop]
    rw [hf] at hQ
    rcases r with ⟨rk, rl, rm, rn, rd, _ | re⟩
    · have hd : rd = true := by simpa using hstop
      subst hd
      repeat' (first
    | (with_reducible first | refine W_pushC fun K hK => ?_ | refine W_blockI ?_ | refine W_scopeI ?_ | refine W_labelI ?_ | refine W_skipI ?_ | refine W_retI ?_ | refine W_exitI ?_ | refine then_normalI ?_ | refine then_retI ?_ | refine then_exitI ?_ | refine inBlock_normalI ?_ | refine inBlock_retI ?_ | refine inBlock_exitI ?_ | refine inBlock_exitN (by decide) ?_)
    | ((with_reducible first | refine bodyQ_normal0 ?_ | refine bodyQ_normal1 ?_ | refine bodyQ_normal2 ?_ | refine bodyQ_normal3 ?_ | refine bodyQ_normal4 ?_ | refine bodyQ_ret0 ?_ | refine bodyQ_ret1 ?_ | refine bodyQ_ret2 ?_ | refine bodyQ_ret3 ?_ | refine bodyQ_ret4 ?_); (try simp only [EVB, Nat.reduceEqDiff, reduceIte]))
    | (with_reducible refine Cont.use (by assumption) ?_)
    | (with_reducible first | refine hcA ?_ | refine hcB ?_)
    | ((with_reducible show W _ _ (.region _ _ true) _ _ _); first | (refine W_drawn (fl := [true, true, true, true, true, true, true, true, true, true, true, true]) (by decide +kernel) ?_) | (refine W_drawn (fl := [true, true, true, true, true, true, true, true, true, true, true, true, true]) (by decide +kernel) ?_) | (refine W_drawn (fl := [true, true, true, true, true, true, true, true, true, true, true, true, true, true, true, false]) (by decide +kernel) ?_) | (refine W_drawn (fl := [true, true, true, true, true, true, true, true, true, true, true, true, true, true]) (by decide +kernel) ?_) | (refine W_drawn (fl := [true, true, true, false, true, true, true, true, true, true, true, true, true, true, true, true, true, true]) (by decide +kernel) ?_) | (refine W_drawn (fl := [true, true, true, true, true, true, true, true, true, true]) (by decide +kernel) ?_) | (refine W_drawn (fl := [true, true, true, true, true, true, false, true, true, true, true]) (by decide +kernel) ?_))
    | ((with_reducible first | refine W_condG fun cA cB hcA hcB => ?_ | refine W_regionI ?_ | show O _ _ _ _ _ _ _ _ | show OK _ _ _ _ _ _ _ _ _ | show OKF _ _ _ _ _ _ _ _ _ _ | show OKT _ _ _ _ _ _ _ _ _ _ _ _ | show _ ∧ _ | show CG _ _ _ | show CB _ _ _); simp (disch := first | ((with_reducible show isStop _ = false); rfl) | ((with_reducible show isP _ = true); rfl) | ((with_reducible show (isStop _ || isP _) = false); rfl) | assumption | (simp only [GSB, Nat.reduceEqDiff, reduceIte]; done) | omega | (with_reducible decide) | (simp only [DSB, Go.Proofs.YtdfgdpjlbcnkfaaDoorAbs.oneC, Nat.reduceAdd, Nat.reduceLeDiff] <;> omega)) only [↓DN, ↓reduceIte, UP, CGB, Int.reduceEq, Int.reduceLT, Int.reduceLE, Nat.reduceEqDiff, Nat.reduceAdd, Nat.reduceMul, Nat.reduceSub, Int.reduceToNat, Nat.reduceLeDiff, PF, isStop, isP, goInt, beq_self_eq_true, decide_true, decide_false, Int.toNat_natCast, Int.natCast_zero, nn_eq, nn_ne, hb, errW])
    | ((with_reducible refine CB_intro (fun ht => hcA ?_) (fun ht => hcB ?_)) <;> (first | (simp only [Bool.true_eq_false, Bool.false_eq_true] at ht; done) | ((try simp only [Bool.not_eq_true', Bool.not_eq_false'] at ht); (try simp only [ht]); (try simp only [HTN] at ht); (try (exfalso; omega)))))
    | ((with_reducible refine W_regionI ?_); simp only [List.append_eq, List.cons_append, List.nil_append])
    | (with_reducible refine O_splitG fun cA cB hcA hcB => ?_)
    | (exact hQ _ _ _ hb0 hm ⟨Nat.le_refl _, fun _ _ _ => rfl⟩ (Own.nil _ _ _) (fun _ q => by cases q)))
    · repeat' (first
    | (with_reducible first | refine W_pushC fun K hK => ?_ | refine W_blockI ?_ | refine W_scopeI ?_ | refine W_labelI ?_ | refine W_skipI ?_ | refine W_retI ?_ | refine W_exitI ?_ | refine then_normalI ?_ | refine then_retI ?_ | refine then_exitI ?_ | refine inBlock_normalI ?_ | refine inBlock_retI ?_ | refine inBlock_exitI ?_ | refine inBlock_exitN (by decide) ?_)
    | ((with_reducible first | refine bodyQ_normal0 ?_ | refine bodyQ_normal1 ?_ | refine bodyQ_normal2 ?_ | refine bodyQ_normal3 ?_ | refine bodyQ_normal4 ?_ | refine bodyQ_ret0 ?_ | refine bodyQ_ret1 ?_ | refine bodyQ_ret2 ?_ | refine bodyQ_ret3 ?_ | refine bodyQ_ret4 ?_); (try simp only [EVB, Nat.reduceEqDiff, reduceIte]))
    | (with_reducible refine Cont.use (by assumption) ?_)
    | (with_reducible first | refine hcA ?_ | refine hcB ?_)
    | ((with_reducible show W _ _ (.region _ _ true) _ _ _); first | (refine W_drawn (fl := [true, true, true, true, true, true, true, true, true, true, true, true]) (by decide +kernel) ?_) | (refine W_drawn (fl := [true, true, true, true, true, true, true, true, true, true, true, true, true]) (by decide +kernel) ?_) | (refine W_drawn (fl := [true, true, true, true, true, true, true, true, true, true, true, true, true, true, true, false]) (by decide +kernel) ?_) | (refine W_drawn (fl := [true, true, true, true, true, true, true, true, true, true, true, true, true, true]) (by decide +kernel) ?_) | (refine W_drawn (fl := [true, true, true, false, true, true, true, true, true, true, true, true, true, true, true, true, true, true]) (by decide +kernel) ?_) | (refine W_drawn (fl := [true, true, true, true, true, true, true, true, true, true]) (by decide +kernel) ?_) | (refine W_drawn (fl := [true, true, true, true, true, true, false, true, true, true, true]) (by decide +kernel) ?_))
    | ((with_reducible first | refine W_condG fun cA cB hcA hcB => ?_ | refine W_regionI ?_ | show O _ _ _ _ _ _ _ _ | show OK _ _ _ _ _ _ _ _ _ | show OKF _ _ _ _ _ _ _ _ _ _ | show OKT _ _ _ _ _ _ _ _ _ _ _ _ | show _ ∧ _ | show CG _ _ _ | show CB _ _ _); simp (disch := first | ((with_reducible show isStop _ = false); rfl) | ((with_reducible show isP _ = true); rfl) | ((with_reducible show (isStop _ || isP _) = false); rfl) | assumption | (simp only [GSB, Nat.reduceEqDiff, reduceIte]; done) | omega | (with_reducible decide) | (simp only [DSB, Go.Proofs.YtdfgdpjlbcnkfaaDoorAbs.oneC, Nat.reduceAdd, Nat.reduceLeDiff] <;> omega)) only [↓DN, ↓reduceIte, UP, CGB, Int.reduceEq, Int.reduceLT, Int.reduceLE, Nat.reduceEqDiff, Nat.reduceAdd, Nat.reduceMul, Nat.reduceSub, Int.reduceToNat, Nat.reduceLeDiff, PF, isStop, isP, goInt, beq_self_eq_true, decide_true, decide_false, Int.toNat_natCast, Int.natCast_zero, nn_eq, nn_ne, hb, errW])
    | ((with_reducible refine CB_intro (fun ht => hcA ?_) (fun ht => hcB ?_)) <;> (first | (simp only [Bool.true_eq_false, Bool.false_eq_true] at ht; done) | ((try simp only [Bool.not_eq_true', Bool.not_eq_false'] at ht); (try simp only [ht]); (try simp only [HTN] at ht); (try (exfalso; omega)))))
    | ((with_reducible refine W_regionI ?_); simp only [List.append_eq, List.cons_append, List.nil_append])
    | (with_reducible refine O_splitG fun cA cB hcA hcB => ?_)
    | (exact hQ _ _ _ hb0 hm ⟨Nat.le_refl _, fun _ _ _ => rfl⟩ (Own.nil _ _ _) (fun _ q => by cases q)))
  obtain ⟨va, vc, hve, _, _⟩ := id hx
  rcases r with ⟨rk, rl, rm, rn, rd, re⟩
  obtain ⟨rfl, rfl⟩ : rd = false ∧ re = none := by cases rd <;> cases re <;> simp_all
  obtain ⟨i1, i2, i3, i4⟩ := hi
  simp only at i1 i2 i3 i4 hk
  simp only [errW] at hb
  have dk : decide (rk = 2) = false := decide_eq_false hk
  by_cases k1 : rk = 1
  · subst k1
    have i5 : rn ≤ rl ∧ rl ≤ 1099511627776 := ⟨(i3 rfl).1, (i3 rfl).2.1⟩
    obtain ⟨j, hj⟩ : ∃ j : Nat, (if rl - rn < (xs.length : Int) then rl - rn else (xs.length : Int)) = (j : Int) := by
      split
      · exact ⟨(rl - rn).toNat, by omega⟩
      · exact ⟨_, rfl⟩
    have hj1 : (j : Int) ≤ rl - rn ∧ j ≤ xs.length := by split at hj <;> omega
    have hf : feedB ⟨1, rl, rm, rn, false, none⟩ xs = ((j : Int), xs.take j, ⟨1, rl, rm, rn + j, decide (rn + j = rl), none⟩) := by
      simp [feedB, hj]
    rw [hf] at hQ
    have w1 : IntKind.i64.wrap (rl - rn) = rl - rn := Go.Proofs.YtdfgdpjlbcnkfaaDoorAbs.wp64 (by omega) (by omega)
    have w2 : IntKind.i64.wrap (rn + (j : Int)) = rn + j := Go.Proofs.YtdfgdpjlbcnkfaaDoorAbs.wp64 (by omega) (by omega)
    obtain ⟨v', hsl, hsrc⟩ := sl_pre hx hs hj1.2
    rw [hve] at hsl
    subst hve
    repeat' (first
    | (with_reducible first | refine W_pushC fun K hK => ?_ | refine W_blockI ?_ | refine W_scopeI ?_ | refine W_labelI ?_ | refine W_skipI ?_ | refine W_retI ?_ | refine W_exitI ?_ | refine then_normalI ?_ | refine then_retI ?_ | refine then_exitI ?_ | refine inBlock_normalI ?_ | refine inBlock_retI ?_ | refine inBlock_exitI ?_ | refine inBlock_exitN (by decide) ?_)
    | ((with_reducible first | refine bodyQ_normal0 ?_ | refine bodyQ_normal1 ?_ | refine bodyQ_normal2 ?_ | refine bodyQ_normal3 ?_ | refine bodyQ_normal4 ?_ | refine bodyQ_ret0 ?_ | refine bodyQ_ret1 ?_ | refine bodyQ_ret2 ?_ | refine bodyQ_ret3 ?_ | refine bodyQ_ret4 ?_); (try simp only [EVB, Nat.reduceEqDiff, reduceIte]))
    | (with_reducible refine Cont.use (by assumption) ?_)
    | (with_reducible first | refine hcA ?_ | refine hcB ?_)
    | ((with_reducible show W _ _ (.region _ _ true) _ _ _); first | (refine W_drawn (fl := [true, true, true, true, true, true, true, true, true, true, true, true]) (by decide +kernel) ?_) | (refine W_drawn (fl := [true, true, true, true, true, true, true, true, true, true, true, true, true]) (by decide +kernel) ?_) | (refine W_drawn (fl := [true, true, true, true, true, true, true, true, true, true, true, true, true, true, true, false]) (by decide +kernel) ?_) | (refine W_drawn (fl := [true, true, true, true, true, true, true, true, true, true, true, true, true, true]) (by decide +kernel) ?_) | (refine W_drawn (fl := [true, true, true, false, true, true, true, true, true, true, true, true, true, true, true, true, true, true]) (by decide +kernel) ?_) | (refine W_drawn (fl := [true, true, true, true, true, true, true, true, true, true]) (by decide +kernel) ?_) | (refine W_drawn (fl := [true, true, true, true, true, true, false, true, true, true, true]) (by decide +kernel) ?_))
    | ((with_reducible first | refine W_condG fun cA cB hcA hcB => ?_ | refine W_regionI ?_ | show O _ _ _ _ _ _ _ _ | show OK _ _ _ _ _ _ _ _ _ | show OKF _ _ _ _ _ _ _ _ _ _ | show OKT _ _ _ _ _ _ _ _ _ _ _ _ | show _ ∧ _ | show CG _ _ _ | show CB _ _ _); simp (disch := first | ((with_reducible show isStop _ = false); rfl) | ((with_reducible show isP _ = true); rfl) | ((with_reducible show (isStop _ || isP _) = false); rfl) | assumption | (simp only [GSB, Nat.reduceEqDiff, reduceIte]; done) | omega | (with_reducible decide) | (simp only [DSB, Go.Proofs.YtdfgdpjlbcnkfaaDoorAbs.oneC, Nat.reduceAdd, Nat.reduceLeDiff] <;> omega)) only [↓DN, ↓reduceIte, UP, CGB, Int.reduceEq, Int.reduceLT, Int.reduceLE, Nat.reduceEqDiff, Nat.reduceAdd, Nat.reduceMul, Nat.reduceSub, Int.reduceToNat, Nat.reduceLeDiff, PF, isStop, isP, goInt, beq_self_eq_true, decide_true, decide_false, Int.toNat_natCast, Int.natCast_zero, nn_eq, nn_ne, hb, w1, w2, hj, hsl])
    | ((with_reducible refine CB_intro (fun ht => hcA ?_) (fun ht => hcB ?_)) <;> (first | (simp only [Bool.true_eq_false, Bool.false_eq_true] at ht; done) | ((try simp only [Bool.not_eq_true', Bool.not_eq_false'] at ht); (try simp only [ht]); (try simp only [HTN] at ht); (try (exfalso; omega)))))
    | ((with_reducible refine W_regionI ?_); simp only [List.append_eq, List.cons_append, List.nil_append])
    | (with_reducible refine O_splitG fun cA cB hcA hcB => ?_))
    refine O_append (P := Tryd.prog) (elem := 5) (size := 1) (bytes := 1) (n := 0) (m := j) (xs := []) (ys := u8v (xs.take j)) u22 sz5 by5 ze5 ⟨by decide, by decide, rfl⟩ (by simp only [EVB, Nat.reduceEqDiff, reduceIte]; exact Own.nil _ _ _) (by simp only [EVB, Nat.reduceEqDiff, reduceIte]; exact hsrc) ⟨by simp [u8v]; omega, u8v_one _⟩ (by omega) fun ov2 S2 hO2 hKp hB => ?_
    simp only [EVB, Nat.reduceEqDiff, reduceIte] at hKp hB
    have hb2 := (hKp.2 b hnb (by simp)).trans hb
    have hnb2 : b < S2.next := Nat.lt_of_lt_of_le hnb hKp.1
    simp only [List.nil_append, Nat.zero_add] at hO2
    obtain ⟨oa, oc, rfl⟩ := own_slice hO2
    have hon : ∀ i, blkOf (.slice oa j oc) = some i → S.next ≤ i := fun i e => by
      rcases hB with q | ⟨i', q1, q2⟩
      · rw [q] at e; cases e
      · rw [q2] at e; cases e; exact q1
    have hlt : (xs.take j).length = j := by simp; omega
    repeat' (first
    | (with_reducible first | refine W_pushC fun K hK => ?_ | refine W_blockI ?_ | refine W_scopeI ?_ | refine W_labelI ?_ | refine W_skipI ?_ | refine W_retI ?_ | refine W_exitI ?_ | refine then_normalI ?_ | refine then_retI ?_ | refine then_exitI ?_ | refine inBlock_normalI ?_ | refine inBlock_retI ?_ | refine inBlock_exitI ?_ | refine inBlock_exitN (by decide) ?_)
    | ((with_reducible first | refine bodyQ_normal0 ?_ | refine bodyQ_normal1 ?_ | refine bodyQ_normal2 ?_ | refine bodyQ_normal3 ?_ | refine bodyQ_normal4 ?_ | refine bodyQ_ret0 ?_ | refine bodyQ_ret1 ?_ | refine bodyQ_ret2 ?_ | refine bodyQ_ret3 ?_ | refine bodyQ_ret4 ?_); (try simp only [EVB, Nat.reduceEqDiff, reduceIte]))
    | (with_reducible refine Cont.use (by assumption) ?_)
    | (with_reducible first | refine hcA ?_ | refine hcB ?_)
    | ((with_reducible show W _ _ (.region _ _ true) _ _ _); first | (refine W_drawn (fl := [true, true, true, true, true, true, true, true, true, true, true, true]) (by decide +kernel) ?_) | (refine W_drawn (fl := [true, true, true, true, true, true, true, true, true, true, true, true, true]) (by decide +kernel) ?_) | (refine W_drawn (fl := [true, true, true, true, true, true, true, true, true, true, true, true, true, true, true, false]) (by decide +kernel) ?_) | (refine W_drawn (fl := [true, true, true, true, true, true, true, true, true, true, true, true, true, true]) (by decide +kernel) ?_) | (refine W_drawn (fl := [true, true, true, false, true, true, true, true, true, true, true, true, true, true, true, true, true, true]) (by decide +kernel) ?_) | (refine W_drawn (fl := [true, true, true, true, true, true, true, true, true, true]) (by decide +kernel) ?_) | (refine W_drawn (fl := [true, true, true, true, true, true, false, true, true, true, true]) (by decide +kernel) ?_))
    | ((with_reducible first | refine W_condG fun cA cB hcA hcB => ?_ | refine W_regionI ?_ | show O _ _ _ _ _ _ _ _ | show OK _ _ _ _ _ _ _ _ _ | show OKF _ _ _ _ _ _ _ _ _ _ | show OKT _ _ _ _ _ _ _ _ _ _ _ _ | show _ ∧ _ | show CG _ _ _ | show CB _ _ _); simp (disch := first | ((with_reducible show isStop _ = false); rfl) | ((with_reducible show isP _ = true); rfl) | ((with_reducible show (isStop _ || isP _) = false); rfl) | assumption | (simp only [GSB, Nat.reduceEqDiff, reduceIte]; done) | omega | (with_reducible decide) | (simp only [DSB, Go.Proofs.YtdfgdpjlbcnkfaaDoorAbs.oneC, Nat.reduceAdd, Nat.reduceLeDiff] <;> omega)) only [↓DN, ↓reduceIte, UP, CGB, Int.reduceEq, Int.reduceLT, Int.reduceLE, Nat.reduceEqDiff, Nat.reduceAdd, Nat.reduceMul, Nat.reduceSub, Int.reduceToNat, Nat.reduceLeDiff, PF, isStop, isP, goInt, beq_self_eq_true, decide_true, decide_false, Int.toNat_natCast, Int.natCast_zero, nn_eq, nn_ne, hb2, w1, w2, hj])
    | ((with_reducible refine CB_intro (fun ht => hcA ?_) (fun ht => hcB ?_)) <;> (first | (simp only [Bool.true_eq_false, Bool.false_eq_true] at ht; done) | ((try simp only [Bool.not_eq_true', Bool.not_eq_false'] at ht); (try simp only [ht]); (try simp only [HTN] at ht); (try (exfalso; omega)))))
    | ((with_reducible refine W_regionI ?_); simp only [List.append_eq, List.cons_append, List.nil_append])
    | (with_reducible refine O_splitG fun cA cB hcA hcB => ?_)
    | (exact hQ _ 7 _ (St.get_upd_self _ _ _) (Nat.le_refl _) (kept_upd hKp _) (by rw [hlt]; exact own_updB hO2 (fun e => by have := hon _ e; omega) _) hon))
  · have d1 : decide (rk = 1) = false := decide_eq_false k1
    have hj : True := trivial
    by_cases hov : 0 ≤ rm ∧ rm - rn < (xs.length : Int)
    · obtain ⟨hm0, hov1⟩ := hov
      have i6 := i4 hm0
      obtain ⟨j, hj⟩ : ∃ j : Nat, rm - rn = (j : Int) := ⟨(rm - rn).toNat, by omega⟩
      have hj1 : j ≤ xs.length := by omega
      have hf : feedB ⟨rk, rl, rm, rn, false, none⟩ xs = ((j : Int) + 1, xs.take j, ⟨rk, rl, rm, rm, false, some 33⟩) := by
        simp [feedB, k1, hm0, hov1, hj]
        omega
      rw [hf] at hQ
      have w1 : IntKind.i64.wrap (rm - rn) = (j : Int) := by rw [Go.Proofs.YtdfgdpjlbcnkfaaDoorAbs.wp64 (by omega) (by omega)]; exact hj
      have w2 : IntKind.i64.wrap (rn + (j : Int)) = rm := by rw [Go.Proofs.YtdfgdpjlbcnkfaaDoorAbs.wp64 (by omega) (by omega)]; omega
      have w3 : IntKind.i64.wrap ((j : Int) + 1) = (j : Int) + 1 := Go.Proofs.YtdfgdpjlbcnkfaaDoorAbs.wp64 (by omega) (by omega)
      have d2 : decide (0 ≤ rm) = true := decide_eq_true hm0
      have d3 : decide ((j : Int) < (xs.length : Int)) = true := decide_eq_true (by omega)
      obtain ⟨v', hsl, hsrc⟩ := sl_pre hx hs hj1
      rw [hve] at hsl
      subst hve
      repeat' (first
    | (with_reducible first | refine W_pushC fun K hK => ?_ | refine W_blockI ?_ | refine W_scopeI ?_ | refine W_labelI ?_ | refine W_skipI ?_ | refine W_retI ?_ | refine W_exitI ?_ | refine then_normalI ?_ | refine then_retI ?_ | refine then_exitI ?_ | refine inBlock_normalI ?_ | refine inBlock_retI ?_ | refine inBlock_exitI ?_ | refine inBlock_exitN (by decide) ?_)
    | ((with_reducible first | refine bodyQ_normal0 ?_ | refine bodyQ_normal1 ?_ | refine bodyQ_normal2 ?_ | refine bodyQ_normal3 ?_ | refine bodyQ_normal4 ?_ | refine bodyQ_ret0 ?_ | refine bodyQ_ret1 ?_ | refine bodyQ_ret2 ?_ | refine bodyQ_ret3 ?_ | refine bodyQ_ret4 ?_); (try simp only [EVB, Nat.reduceEqDiff, reduceIte]))
    | (with_reducible refine Cont.use (by assumption) ?_)
    | (with_reducible first | refine hcA ?_ | refine hcB ?_)
    | ((with_reducible show W _ _ (.region _ _ true) _ _ _); first | (refine W_drawn (fl := [true, true, true, true, true, true, true, true, true, true, true, true]) (by decide +kernel) ?_) | (refine W_drawn (fl := [true, true, true, true, true, true, true, true, true, true, true, true, true]) (by decide +kernel) ?_) | (refine W_drawn (fl := [true, true, true, true, true, true, true, true, true, true, true, true, true, true, true, false]) (by decide +kernel) ?_) | (refine W_drawn (fl := [true, true, true, true, true, true, true, true, true, true, true, true, true, true]) (by decide +kernel) ?_) | (refine W_drawn (fl := [true, true, true, false, true, true, true, true, true, true, true, true, true, true, true, true, true, true]) (by decide +kernel) ?_) | (refine W_drawn (fl := [true, true, true, true, true, true, true, true, true, true]) (by decide +kernel) ?_) | (refine W_drawn (fl := [true, true, true, true, true, true, false, true, true, true, true]) (by decide +kernel) ?_))
    | ((with_reducible first | refine W_condG fun cA cB hcA hcB => ?_ | refine W_regionI ?_ | show O _ _ _ _ _ _ _ _ | show OK _ _ _ _ _ _ _ _ _ | show OKF _ _ _ _ _ _ _ _ _ _ | show OKT _ _ _ _ _ _ _ _ _ _ _ _ | show _ ∧ _ | show CG _ _ _ | show CB _ _ _); simp (disch := first | ((with_reducible show isStop _ = false); rfl) | ((with_reducible show isP _ = true); rfl) | ((with_reducible show (isStop _ || isP _) = false); rfl) | assumption | (simp only [GSB, Nat.reduceEqDiff, reduceIte]; done) | omega | (with_reducible decide) | (simp only [DSB, Go.Proofs.YtdfgdpjlbcnkfaaDoorAbs.oneC, Nat.reduceAdd, Nat.reduceLeDiff] <;> omega)) only [↓DN, ↓reduceIte, UP, CGB, Int.reduceEq, Int.reduceLT, Int.reduceLE, Nat.reduceEqDiff, Nat.reduceAdd, Nat.reduceMul, Nat.reduceSub, Int.reduceToNat, Nat.reduceLeDiff, PF, isStop, isP, goInt, beq_self_eq_true, decide_true, decide_false, Int.toNat_natCast, Int.natCast_zero, nn_eq, nn_ne, hb, w1, w2, w3, d1, d2, d3, dk, hsl])
    | ((with_reducible refine CB_intro (fun ht => hcA ?_) (fun ht => hcB ?_)) <;> (first | (simp only [Bool.true_eq_false, Bool.false_eq_true] at ht; done) | ((try simp only [Bool.not_eq_true', Bool.not_eq_false'] at ht); (try simp only [ht]); (try simp only [HTN] at ht); (try (exfalso; omega)))))
    | ((with_reducible refine W_regionI ?_); simp only [List.append_eq, List.cons_append, List.nil_append])
    | (with_reducible refine O_splitG fun cA cB hcA hcB => ?_))
      refine O_append (P := Tryd.prog) (elem := 5) (size := 1) (bytes := 1) (n := 0) (m := j) (xs := []) (ys := u8v (xs.take j)) u22 sz5 by5 ze5 ⟨by decide, by decide, rfl⟩ (by simp only [EVB, Nat.reduceEqDiff, reduceIte]; exact Own.nil _ _ _) (by simp only [EVB, Nat.reduceEqDiff, reduceIte]; exact hsrc) ⟨by simp [u8v]; omega, u8v_one _⟩ (by omega) fun ov2 S2 hO2 hKp hB => ?_
      simp only [EVB, Nat.reduceEqDiff, reduceIte] at hKp hB
      have hb2 := (hKp.2 b hnb (by simp)).trans hb
      have hnb2 : b < S2.next := Nat.lt_of_lt_of_le hnb hKp.1
      simp only [List.nil_append, Nat.zero_add] at hO2
      obtain ⟨oa, oc, rfl⟩ := own_slice hO2
      have hon : ∀ i, blkOf (.slice oa j oc) = some i → S.next ≤ i := fun i e => by
        rcases hB with q | ⟨i', q1, q2⟩
        · rw [q] at e; cases e
        · rw [q2] at e; cases e; exact q1
      have hlt : (xs.take j).length = j := by simp; omega
      repeat' (first
    | (with_reducible first | refine W_pushC fun K hK => ?_ | refine W_blockI ?_ | refine W_scopeI ?_ | refine W_labelI ?_ | refine W_skipI ?_ | refine W_retI ?_ | refine W_exitI ?_ | refine then_normalI ?_ | refine then_retI ?_ | refine then_exitI ?_ | refine inBlock_normalI ?_ | refine inBlock_retI ?_ | refine inBlock_exitI ?_ | refine inBlock_exitN (by decide) ?_)
    | ((with_reducible first | refine bodyQ_normal0 ?_ | refine bodyQ_normal1 ?_ | refine bodyQ_normal2 ?_ | refine bodyQ_normal3 ?_ | refine bodyQ_normal4 ?_ | refine bodyQ_ret0 ?_ | refine bodyQ_ret1 ?_ | refine bodyQ_ret2 ?_ | refine bodyQ_ret3 ?_ | refine bodyQ_ret4 ?_); (try simp only [EVB, Nat.reduceEqDiff, reduceIte]))
    | (with_reducible refine Cont.use (by assumption) ?_)
    | (with_reducible first | refine hcA ?_ | refine hcB ?_)
    | ((with_reducible show W _ _ (.region _ _ true) _ _ _); first | (refine W_drawn (fl := [true, true, true, true, true, true, true, true, true, true, true, true]) (by decide +kernel) ?_) | (refine W_drawn (fl := [true, true, true, true, true, true, true, true, true, true, true, true, true]) (by decide +kernel) ?_) | (refine W_drawn (fl := [true, true, true, true, true, true, true, true, true, true, true, true, true, true, true, false]) (by decide +kernel) ?_) | (refine W_drawn (fl := [true, true, true, true, true, true, true, true, true, true, true, true, true, true]) (by decide +kernel) ?_) | (refine W_drawn (fl := [true, true, true, false, true, true, true, true, true, true, true, true, true, true, true, true, true, true]) (by decide +kernel) ?_) | (refine W_drawn (fl := [true, true, true, true, true, true, true, true, true, true]) (by decide +kernel) ?_) | (refine W_drawn (fl := [true, true, true, true, true, true, false, true, true, true, true]) (by decide +kernel) ?_))
    | ((with_reducible first | refine W_condG fun cA cB hcA hcB => ?_ | refine W_regionI ?_ | show O _ _ _ _ _ _ _ _ | show OK _ _ _ _ _ _ _ _ _ | show OKF _ _ _ _ _ _ _ _ _ _ | show OKT _ _ _ _ _ _ _ _ _ _ _ _ | show _ ∧ _ | show CG _ _ _ | show CB _ _ _); simp (disch := first | ((with_reducible show isStop _ = false); rfl) | ((with_reducible show isP _ = true); rfl) | ((with_reducible show (isStop _ || isP _) = false); rfl) | assumption | (simp only [GSB, Nat.reduceEqDiff, reduceIte]; done) | omega | (with_reducible decide) | (simp only [DSB, Go.Proofs.YtdfgdpjlbcnkfaaDoorAbs.oneC, Nat.reduceAdd, Nat.reduceLeDiff] <;> omega)) only [↓DN, ↓reduceIte, UP, CGB, Int.reduceEq, Int.reduceLT, Int.reduceLE, Nat.reduceEqDiff, Nat.reduceAdd, Nat.reduceMul, Nat.reduceSub, Int.reduceToNat, Nat.reduceLeDiff, PF, isStop, isP, goInt, beq_self_eq_true, decide_true, decide_false, Int.toNat_natCast, Int.natCast_zero, nn_eq, nn_ne, hb2, w1, w2,  w3])
    | ((with_reducible refine CB_intro (fun ht => hcA ?_) (fun ht => hcB ?_)) <;> (first | (simp only [Bool.true_eq_false, Bool.false_eq_true] at ht; done) | ((try simp only [Bool.not_eq_true', Bool.not_eq_false'] at ht); (try simp only [ht]); (try simp only [HTN] at ht); (try (exfalso; omega)))))
    | ((with_reducible refine W_regionI ?_); simp only [List.append_eq, List.cons_append, List.nil_append])
    | (with_reducible refine O_splitG fun cA cB hcA hcB => ?_)
    | (exact hQ _ 7 _ (St.get_upd_self _ _ _) (Nat.le_refl _) (kept_upd hKp _) (by rw [hlt]; exact own_updB hO2 (fun e => by have := hon _ e; omega) _) hon))
    · have hf : feedB ⟨rk, rl, rm, rn, false, none⟩ xs = ((xs.length : Int), xs, ⟨rk, rl, rm, rn + xs.length, false, none⟩) := by
        simp only [feedB, k1, hov]
        simp
      rw [hf] at hQ
      have hsrc := sl_src hx
      rw [hve] at hsrc
      have w2 : IntKind.i64.wrap (rn + (xs.length : Int)) = rn + xs.length := Go.Proofs.YtdfgdpjlbcnkfaaDoorAbs.wp64 (by omega) (by omega)
      have fin : ∀ ov2 S2, Own 5 1 S2 ov2 (0 + xs.length) ([] ++ u8v xs) → Kept S S2 none → (blkOf ov2 = none ∨ ∃ i, S.next ≤ i ∧ blkOf ov2 = some i) → (∀ B, Own 5 1 (S2.upd b B) ov2 xs.length (u8v xs)) ∧ (∀ i, blkOf ov2 = some i → S.next ≤ i) := fun ov2 S2 hO2 hKp hB => by
        have hon : ∀ i, blkOf ov2 = some i → S.next ≤ i := fun i e => by
          rcases hB with q | ⟨i', q1, q2⟩
          · rw [q] at e; cases e
          · rw [q2] at e; cases e; exact q1
        simp only [List.nil_append, Nat.zero_add] at hO2
        exact ⟨fun B => own_updB hO2 (fun e => by have := hon _ e; omega) _, hon⟩
      subst hve
      by_cases hm0 : 0 ≤ rm
      · have i6 := i4 hm0
        have w1 : IntKind.i64.wrap (rm - rn) = rm - rn := Go.Proofs.YtdfgdpjlbcnkfaaDoorAbs.wp64 (by omega) (by omega)
        have d2 : decide (0 ≤ rm) = true := decide_eq_true hm0
        have d3 : decide (rm - rn < (xs.length : Int)) = false := decide_eq_false (fun q => hov ⟨hm0, q⟩)
        repeat' (first
    | (with_reducible first | refine W_pushC fun K hK => ?_ | refine W_blockI ?_ | refine W_scopeI ?_ | refine W_labelI ?_ | refine W_skipI ?_ | refine W_retI ?_ | refine W_exitI ?_ | refine then_normalI ?_ | refine then_retI ?_ | refine then_exitI ?_ | refine inBlock_normalI ?_ | refine inBlock_retI ?_ | refine inBlock_exitI ?_ | refine inBlock_exitN (by decide) ?_)
    | ((with_reducible first | refine bodyQ_normal0 ?_ | refine bodyQ_normal1 ?_ | refine bodyQ_normal2 ?_ | refine bodyQ_normal3 ?_ | refine bodyQ_normal4 ?_ | refine bodyQ_ret0 ?_ | refine bodyQ_ret1 ?_ | refine bodyQ_ret2 ?_ | refine bodyQ_ret3 ?_ | refine bodyQ_ret4 ?_); (try simp only [EVB, Nat.reduceEqDiff, reduceIte]))
    | (with_reducible refine Cont.use (by assumption) ?_)
    | (with_reducible first | refine hcA ?_ | refine hcB ?_)
    | ((with_reducible show W _ _ (.region _ _ true) _ _ _); first | (refine W_drawn (fl := [true, true, true, true, true, true, true, true, true, true, true, true]) (by decide +kernel) ?_) | (refine W_drawn (fl := [true, true, true, true, true, true, true, true, true, true, true, true, true]) (by decide +kernel) ?_) | (refine W_drawn (fl := [true, true, true, true, true, true, true, true, true, true, true, true, true, true, true, false]) (by decide +kernel) ?_) | (refine W_drawn (fl := [true, true, true, true, true, true, true, true, true, true, true, true, true, true]) (by decide +kernel) ?_) | (refine W_drawn (fl := [true, true, true, false, true, true, true, true, true, true, true, true, true, true, true, true, true, true]) (by decide +kernel) ?_) | (refine W_drawn (fl := [true, true, true, true, true, true, true, true, true, true]) (by decide +kernel) ?_) | (refine W_drawn (fl := [true, true, true, true, true, true, false, true, true, true, true]) (by decide +kernel) ?_))
    | ((with_reducible first | refine W_condG fun cA cB hcA hcB => ?_ | refine W_regionI ?_ | show O _ _ _ _ _ _ _ _ | show OK _ _ _ _ _ _ _ _ _ | show OKF _ _ _ _ _ _ _ _ _ _ | show OKT _ _ _ _ _ _ _ _ _ _ _ _ | show _ ∧ _ | show CG _ _ _ | show CB _ _ _); simp (disch := first | ((with_reducible show isStop _ = false); rfl) | ((with_reducible show isP _ = true); rfl) | ((with_reducible show (isStop _ || isP _) = false); rfl) | assumption | (simp only [GSB, Nat.reduceEqDiff, reduceIte]; done) | omega | (with_reducible decide) | (simp only [DSB, Go.Proofs.YtdfgdpjlbcnkfaaDoorAbs.oneC, Nat.reduceAdd, Nat.reduceLeDiff] <;> omega)) only [↓DN, ↓reduceIte, UP, CGB, Int.reduceEq, Int.reduceLT, Int.reduceLE, Nat.reduceEqDiff, Nat.reduceAdd, Nat.reduceMul, Nat.reduceSub, Int.reduceToNat, Nat.reduceLeDiff, PF, isStop, isP, goInt, beq_self_eq_true, decide_true, decide_false, Int.toNat_natCast, Int.natCast_zero, nn_eq, nn_ne, hb, w1, w2, d1, d2, d3, dk])
    | ((with_reducible refine CB_intro (fun ht => hcA ?_) (fun ht => hcB ?_)) <;> (first | (simp only [Bool.true_eq_false, Bool.false_eq_true] at ht; done) | ((try simp only [Bool.not_eq_true', Bool.not_eq_false'] at ht); (try simp only [ht]); (try simp only [HTN] at ht); (try (exfalso; omega)))))
    | ((with_reducible refine W_regionI ?_); simp only [List.append_eq, List.cons_append, List.nil_append])
    | (with_reducible refine O_splitG fun cA cB hcA hcB => ?_))
        refine O_append (P := Tryd.prog) (elem := 5) (size := 1) (bytes := 1) (n := 0) (m := xs.length) (xs := []) (ys := u8v xs) u22 sz5 by5 ze5 ⟨by decide, by decide, rfl⟩ (by simp only [EVB, Nat.reduceEqDiff, reduceIte]; exact Own.nil _ _ _) (by simp only [EVB, Nat.reduceEqDiff, reduceIte]; exact hsrc) ⟨by simp [u8v], u8v_one _⟩ (by omega) fun ov2 S2 hO2 hKp hB => ?_
        simp only [EVB, Nat.reduceEqDiff, reduceIte] at hKp hB
        obtain ⟨fin0, hon⟩ := fin _ _ hO2 hKp hB
        have hb2 := (hKp.2 b hnb (by simp)).trans hb
        have hnb2 : b < S2.next := Nat.lt_of_lt_of_le hnb hKp.1
        obtain ⟨oa, oc, rfl⟩ := own_slice (hO2 : Own 5 1 S2 ov2 (0 + xs.length) _)
        simp only [Nat.zero_add] at *
        repeat' (first
    | (with_reducible first | refine W_pushC fun K hK => ?_ | refine W_blockI ?_ | refine W_scopeI ?_ | refine W_labelI ?_ | refine W_skipI ?_ | refine W_retI ?_ | refine W_exitI ?_ | refine then_normalI ?_ | refine then_retI ?_ | refine then_exitI ?_ | refine inBlock_normalI ?_ | refine inBlock_retI ?_ | refine inBlock_exitI ?_ | refine inBlock_exitN (by decide) ?_)
    | ((with_reducible first | refine bodyQ_normal0 ?_ | refine bodyQ_normal1 ?_ | refine bodyQ_normal2 ?_ | refine bodyQ_normal3 ?_ | refine bodyQ_normal4 ?_ | refine bodyQ_ret0 ?_ | refine bodyQ_ret1 ?_ | refine bodyQ_ret2 ?_ | refine bodyQ_ret3 ?_ | refine bodyQ_ret4 ?_); (try simp only [EVB, Nat.reduceEqDiff, reduceIte]))
    | (with_reducible refine Cont.use (by assumption) ?_)
    | (with_reducible first | refine hcA ?_ | refine hcB ?_)
    | ((with_reducible show W _ _ (.region _ _ true) _ _ _); first | (refine W_drawn (fl := [true, true, true, true, true, true, true, true, true, true, true, true]) (by decide +kernel) ?_) | (refine W_drawn (fl := [true, true, true, true, true, true, true, true, true, true, true, true, true]) (by decide +kernel) ?_) | (refine W_drawn (fl := [true, true, true, true, true, true, true, true, true, true, true, true, true, true, true, false]) (by decide +kernel) ?_) | (refine W_drawn (fl := [true, true, true, true, true, true, true, true, true, true, true, true, true, true]) (by decide +kernel) ?_) | (refine W_drawn (fl := [true, true, true, false, true, true, true, true, true, true, true, true, true, true, true, true, true, true]) (by decide +kernel) ?_) | (refine W_drawn (fl := [true, true, true, true, true, true, true, true, true, true]) (by decide +kernel) ?_) | (refine W_drawn (fl := [true, true, true, true, true, true, false, true, true, true, true]) (by decide +kernel) ?_))
    | ((with_reducible first | refine W_condG fun cA cB hcA hcB => ?_ | refine W_regionI ?_ | show O _ _ _ _ _ _ _ _ | show OK _ _ _ _ _ _ _ _ _ | show OKF _ _ _ _ _ _ _ _ _ _ | show OKT _ _ _ _ _ _ _ _ _ _ _ _ | show _ ∧ _ | show CG _ _ _ | show CB _ _ _); simp (disch := first | ((with_reducible show isStop _ = false); rfl) | ((with_reducible show isP _ = true); rfl) | ((with_reducible show (isStop _ || isP _) = false); rfl) | assumption | (simp only [GSB, Nat.reduceEqDiff, reduceIte]; done) | omega | (with_reducible decide) | (simp only [DSB, Go.Proofs.YtdfgdpjlbcnkfaaDoorAbs.oneC, Nat.reduceAdd, Nat.reduceLeDiff] <;> omega)) only [↓DN, ↓reduceIte, UP, CGB, Int.reduceEq, Int.reduceLT, Int.reduceLE, Nat.reduceEqDiff, Nat.reduceAdd, Nat.reduceMul, Nat.reduceSub, Int.reduceToNat, Nat.reduceLeDiff, PF, isStop, isP, goInt, beq_self_eq_true, decide_true, decide_false, Int.toNat_natCast, Int.natCast_zero, nn_eq, nn_ne, hb2, w1, w2])
    | ((with_reducible refine CB_intro (fun ht => hcA ?_) (fun ht => hcB ?_)) <;> (first | (simp only [Bool.true_eq_false, Bool.false_eq_true] at ht; done) | ((try simp only [Bool.not_eq_true', Bool.not_eq_false'] at ht); (try simp only [ht]); (try simp only [HTN] at ht); (try (exfalso; omega)))))
    | ((with_reducible refine W_regionI ?_); simp only [List.append_eq, List.cons_append, List.nil_append])
    | (with_reducible refine O_splitG fun cA cB hcA hcB => ?_)
    | (exact hQ _ 7 _ (St.get_upd_self _ _ _) (Nat.le_refl _) (kept_upd hKp _) (fin0 _) hon))
      · have d2 : decide (0 ≤ rm) = false := decide_eq_false hm0
        repeat' (first
    | (with_reducible first | refine W_pushC fun K hK => ?_ | refine W_blockI ?_ | refine W_scopeI ?_ | refine W_labelI ?_ | refine W_skipI ?_ | refine W_retI ?_ | refine W_exitI ?_ | refine then_normalI ?_ | refine then_retI ?_ | refine then_exitI ?_ | refine inBlock_normalI ?_ | refine inBlock_retI ?_ | refine inBlock_exitI ?_ | refine inBlock_exitN (by decide) ?_)
    | ((with_reducible first | refine bodyQ_normal0 ?_ | refine bodyQ_normal1 ?_ | refine bodyQ_normal2 ?_ | refine bodyQ_normal3 ?_ | refine bodyQ_normal4 ?_ | refine bodyQ_ret0 ?_ | refine bodyQ_ret1 ?_ | refine bodyQ_ret2 ?_ | refine bodyQ_ret3 ?_ | refine bodyQ_ret4 ?_); (try simp only [EVB, Nat.reduceEqDiff, reduceIte]))
    | (with_reducible refine Cont.use (by assumption) ?_)
    | (with_reducible first | refine hcA ?_ | refine hcB ?_)
    | ((with_reducible show W _ _ (.region _ _ true) _ _ _); first | (refine W_drawn (fl := [true, true, true, true, true, true, true, true, true, true, true, true]) (by decide +kernel) ?_) | (refine W_drawn (fl := [true, true, true, true, true, true, true, true, true, true, true, true, true]) (by decide +kernel) ?_) | (refine W_drawn (fl := [true, true, true, true, true, true, true, true, true, true, true, true, true, true, true, false]) (by decide +kernel) ?_) | (refine W_drawn (fl := [true, true, true, true, true, true, true, true, true, true, true, true, true, true]) (by decide +kernel) ?_) | (refine W_drawn (fl := [true, true, true, false, true, true, true, true, true, true, true, true, true, true, true, true, true, true]) (by decide +kernel) ?_) | (refine W_drawn (fl := [true, true, true, true, true, true, true, true, true, true]) (by decide +kernel) ?_) | (refine W_drawn (fl := [true, true, true, true, true, true, false, true, true, true, true]) (by decide +kernel) ?_))
    | ((with_reducible first | refine W_condG fun cA cB hcA hcB => ?_ | refine W_regionI ?_ | show O _ _ _ _ _ _ _ _ | show OK _ _ _ _ _ _ _ _ _ | show OKF _ _ _ _ _ _ _ _ _ _ | show OKT _ _ _ _ _ _ _ _ _ _ _ _ | show _ ∧ _ | show CG _ _ _ | show CB _ _ _); simp (disch := first | ((with_reducible show isStop _ = false); rfl) | ((with_reducible show isP _ = true); rfl) | ((with_reducible show (isStop _ || isP _) = false); rfl) | assumption | (simp only [GSB, Nat.reduceEqDiff, reduceIte]; done) | omega | (with_reducible decide) | (simp only [DSB, Go.Proofs.YtdfgdpjlbcnkfaaDoorAbs.oneC, Nat.reduceAdd, Nat.reduceLeDiff] <;> omega)) only [↓DN, ↓reduceIte, UP, CGB, Int.reduceEq, Int.reduceLT, Int.reduceLE, Nat.reduceEqDiff, Nat.reduceAdd, Nat.reduceMul, Nat.reduceSub, Int.reduceToNat, Nat.reduceLeDiff, PF, isStop, isP, goInt, beq_self_eq_true, decide_true, decide_false, Int.toNat_natCast, Int.natCast_zero, nn_eq, nn_ne, hb, w2, d1, d2, dk])
    | ((with_reducible refine CB_intro (fun ht => hcA ?_) (fun ht => hcB ?_)) <;> (first | (simp only [Bool.true_eq_false, Bool.false_eq_true] at ht; done) | ((try simp only [Bool.not_eq_true', Bool.not_eq_false'] at ht); (try simp only [ht]); (try simp only [HTN] at ht); (try (exfalso; omega)))))
    | ((with_reducible refine W_regionI ?_); simp only [List.append_eq, List.cons_append, List.nil_append])
    | (with_reducible refine O_splitG fun cA cB hcA hcB => ?_))
        refine O_append (P := Tryd.prog) (elem := 5) (size := 1) (bytes := 1) (n := 0) (m := xs.length) (xs := []) (ys := u8v xs) u22 sz5 by5 ze5 ⟨by decide, by decide, rfl⟩ (by simp only [EVB, Nat.reduceEqDiff, reduceIte]; exact Own.nil _ _ _) (by simp only [EVB, Nat.reduceEqDiff, reduceIte]; exact hsrc) ⟨by simp [u8v], u8v_one _⟩ (by omega) fun ov2 S2 hO2 hKp hB => ?_
        simp only [EVB, Nat.reduceEqDiff, reduceIte] at hKp hB
        obtain ⟨fin0, hon⟩ := fin _ _ hO2 hKp hB
        have hb2 := (hKp.2 b hnb (by simp)).trans hb
        have hnb2 : b < S2.next := Nat.lt_of_lt_of_le hnb hKp.1
        obtain ⟨oa, oc, rfl⟩ := own_slice (hO2 : Own 5 1 S2 ov2 (0 + xs.length) _)
        simp only [Nat.zero_add] at *
        repeat' (first
    | (with_reducible first | refine W_pushC fun K hK => ?_ | refine W_blockI ?_ | refine W_scopeI ?_ | refine W_labelI ?_ | refine W_skipI ?_ | refine W_retI ?_ | refine W_exitI ?_ | refine then_normalI ?_ | refine then_retI ?_ | refine then_exitI ?_ | refine inBlock_normalI ?_ | refine inBlock_retI ?_ | refine inBlock_exitI ?_ | refine inBlock_exitN (by decide) ?_)
    | ((with_reducible first | refine bodyQ_normal0 ?_ | refine bodyQ_normal1 ?_ | refine bodyQ_normal2 ?_ | refine bodyQ_normal3 ?_ | refine bodyQ_normal4 ?_ | refine bodyQ_ret0 ?_ | refine bodyQ_ret1 ?_ | refine bodyQ_ret2 ?_ | refine bodyQ_ret3 ?_ | refine bodyQ_ret4 ?_); (try simp only [EVB, Nat.reduceEqDiff, reduceIte]))
    | (with_reducible refine Cont.use (by assumption) ?_)
    | (with_reducible first | refine hcA ?_ | refine hcB ?_)
    | ((with_reducible show W _ _ (.region _ _ true) _ _ _); first | (refine W_drawn (fl := [true, true, true, true, true, true, true, true, true, true, true, true]) (by decide +kernel) ?_) | (refine W_drawn (fl := [true, true, true, true, true, true, true, true, true, true, true, true, true]) (by decide +kernel) ?_) | (refine W_drawn (fl := [true, true, true, true, true, true, true, true, true, true, true, true, true, true, true, false]) (by decide +kernel) ?_) | (refine W_drawn (fl := [true, true, true, true, true, true, true, true, true, true, true, true, true, true]) (by decide +kernel) ?_) | (refine W_drawn (fl := [true, true, true, false, true, true, true, true, true, true, true, true, true, true, true, true, true, true]) (by decide +kernel) ?_) | (refine W_drawn (fl := [true, true, true, true, true, true, true, true, true, true]) (by decide +kernel) ?_) | (refine W_drawn (fl := [true, true, true, true, true, true, false, true, true, true, true]) (by decide +kernel) ?_))
    | ((with_reducible first | refine W_condG fun cA cB hcA hcB => ?_ | refine W_regionI ?_ | show O _ _ _ _ _ _ _ _ | show OK _ _ _ _ _ _ _ _ _ | show OKF _ _ _ _ _ _ _ _ _ _ | show OKT _ _ _ _ _ _ _ _ _ _ _ _ | show _ ∧ _ | show CG _ _ _ | show CB _ _ _); simp (disch := first | ((with_reducible show isStop _ = false); rfl) | ((with_reducible show isP _ = true); rfl) | ((with_reducible show (isStop _ || isP _) = false); rfl) | assumption | (simp only [GSB, Nat.reduceEqDiff, reduceIte]; done) | omega | (with_reducible decide) | (simp only [DSB, Go.Proofs.YtdfgdpjlbcnkfaaDoorAbs.oneC, Nat.reduceAdd, Nat.reduceLeDiff] <;> omega)) only [↓DN, ↓reduceIte, UP, CGB, Int.reduceEq, Int.reduceLT, Int.reduceLE, Nat.reduceEqDiff, Nat.reduceAdd, Nat.reduceMul, Nat.reduceSub, Int.reduceToNat, Nat.reduceLeDiff, PF, isStop, isP, goInt, beq_self_eq_true, decide_true, decide_false, Int.toNat_natCast, Int.natCast_zero, nn_eq, nn_ne, hb2, w2])
    | ((with_reducible refine CB_intro (fun ht => hcA ?_) (fun ht => hcB ?_)) <;> (first | (simp only [Bool.true_eq_false, Bool.false_eq_true] at ht; done) | ((try simp only [Bool.not_eq_true', Bool.not_eq_false'] at ht); (try simp only [ht]); (try simp only [HTN] at ht); (try (exfalso; omega)))))
    | ((with_reducible refine W_regionI ?_); simp only [List.append_eq, List.cons_append, List.nil_append])
    | (with_reducible refine O_splitG fun cA cB hcA hcB => ?_)
    | (exact hQ _ 7 _ (St.get_upd_self _ _ _) (Nat.le_refl _) (kept_upd hKp _) (fin0 _) hon))
end
end Go.Proofs.YtdfgdpjlbcnkfaaDoor.Q
namespace Go.Proofs.YtdfgdpjlbcnkfaaDoor.Q
open Go Go.Proofs.YtdfgdpjlbcnkfaaDoorAbs Go.Proofs
set_option linter.unusedVariables false
set_option linter.unusedSimpArgs false
set_option maxRecDepth 100000
set_option maxHeartbeats 4000000
attribute [local irreducible] Go.Proofs.YtdfgdpjlbcnkfaaDoorAbs.O Go.Proofs.YtdfgdpjlbcnkfaaDoorAbs.W Go.Proofs.YtdfgdpjlbcnkfaaDoorAbs.C Go.Proofs.YtdfgdpjlbcnkfaaDoorAbs.OK Go.Proofs.YtdfgdpjlbcnkfaaDoorAbs.OKF Go.Proofs.YtdfgdpjlbcnkfaaDoorAbs.OKT Go.Proofs.YtdfgdpjlbcnkfaaDoorAbs.then_ Go.Proofs.YtdfgdpjlbcnkfaaDoorAbs.inBlock_ Go.Proofs.YtdfgdpjlbcnkfaaDoorAbs.bodyQ Go.Proofs.YtdfgdpjlbcnkfaaDoorAbs.Cont
def feedC (r : BR) (p : PRd) (xs : List UInt8) : Int × List UInt8 × BR × PRd :=
  if r.done = true ∨ r.err.isSome = true then (0, [], r, p)
  else ((feedF p xs).1, (feedF p xs).2.1, { r with len := r.len + (feedF p xs).2.1.length, done := decide ((feedF p xs).2.2.state = 8), err := (feedF p xs).2.2.err }, (feedF p xs).2.2)
structure BC (S : St) (b bc : Nat) (r : BR) (p : PRd) (tv lv : Value) : Prop where
  cell : ∃ m, m ≤ 7 ∧ S.get b = some ⟨r.cells (.pointer (some ⟨bc, 0, some 11⟩)), 73, true, m⟩
  hn : b < S.next
  ne : b ≠ bc
  t : blkOf tv ≠ some b
  l : blkOf lv ≠ some b
  rd : ∃ m, Rd S bc p tv lv m
  inv : RInv p
structure BMv (S S' : St) (b bc : Nat) (tv lv tv' lv' : Value) : Prop where
  next : S.next ≤ S'.next
  keep : ∀ i, i < S.next → i ≠ b → i ≠ bc → blkOf tv ≠ some i → blkOf lv ≠ some i → S'.get i = S.get i
  t : ∀ i, blkOf tv' = some i → blkOf tv = some i ∨ S.next ≤ i
  l : ∀ i, blkOf lv' = some i → blkOf lv = some i ∨ S.next ≤ i
section
variable {I : Prims} {S : St} {Q : Value → St → Prop}
theorem CFeed_C (h : HB I) {b bc : Nat} {r : BR} {p : PRd} {tv lv v : Value} {xs : List UInt8} (hB : BC S b bc r p tv lv) (hk : r.kind = 2) (hl0 : 0 ≤ r.len) (hl1 : r.len ≤ 4398046511104) (hx : Sl S v xs) (hv : Apart v bc tv lv) (hvn : ∀ i, blkOf v = some i → i < S.next) (hxn : xs.length ≤ 1099511627776)
    (hQ : ∀ S' tv' lv' ov, BC S' b bc (feedC r p xs).2.2.1 (feedC r p xs).2.2.2 tv' lv' → BMv S S' b bc tv lv tv' lv' → Own 5 1 S' ov (feedC r p xs).2.1.length (u8v (feedC r p xs).2.1) → (∀ i, blkOf ov = some i → S.next ≤ i) → Apart ov bc tv' lv' →
      Q (.tuple #[.int .i64 (feedC r p xs).1, ov, .bool (feedC r p xs).2.2.1.done, errW (feedC r p xs).2.2.1.err]) S') :
    C Tryd.prog I 24 #[.pointer (some ⟨b, 0, some 7⟩), v] S Q := by
  refine C_body (rs := [.tmp 4, .tmp 5, .tmp 6, .tmp 7]) (h.no 24 (by decide)) Tryd.func24 rfl rfl ok24 ?_
  obtain ⟨u22, sz5, u5, u9, u3, u29, u34, u33, sz3, u4, u41, sz66, u46, sz28, u47, u52, sz22, sz62, sz24, sz59, u59, sz60, u60, sz41, sz58, u58, sz73, sz34, sz4, sz9, sz83, u88, sz86, u112, sz118, u118, u2, sz126, u126, u21, sz130, u130, u139, u140, sz141, u141, u145, u148, sz147, u154, u155⟩ := UF
  obtain ⟨⟨m, hm, hb⟩, hnb, hne, ht', hl', ⟨mr, hR⟩, hi⟩ := id hB
  have hb0 := hb
  simp only [BR.cells] at hb
  by_cases hstop : r.done = true ∨ r.err.isSome = true
  · have hf : feedC r p xs = (0, [], r, p) := by unfold feedC; rw [if_pos hstop]
    rw [hf] at hQ
    have hq0 := hQ S tv lv (.slice none 0 0) hB ⟨Nat.le_refl _, fun _ _ _ _ _ _ => rfl, fun _ q => .inl q, fun _ q => .inl q⟩ (Own.nil _ _ _) (fun _ q => by cases q) (fun _ q => by cases q)
    rcases r with ⟨rk, rl, rm, rn, rd, _ | re⟩
    · have hd : rd = true := by simpa using hstop
      subst hd
      repeat' (first
    | (with_reducible first | refine W_pushC fun K hK => ?_ | refine W_blockI ?_ | refine W_scopeI ?_ | refine W_labelI ?_ | refine W_skipI ?_ | refine W_retI ?_ | refine W_exitI ?_ | refine then_normalI ?_ | refine then_retI ?_ | refine then_exitI ?_ | refine inBlock_normalI ?_ | refine inBlock_retI ?_ | refine inBlock_exitI ?_ | refine inBlock_exitN (by decide) ?_)
    | ((with_reducible first | refine bodyQ_normal0 ?_ | refine bodyQ_normal1 ?_ | refine bodyQ_normal2 ?_ | refine bodyQ_normal3 ?_ | refine bodyQ_normal4 ?_ | refine bodyQ_ret0 ?_ | refine bodyQ_ret1 ?_ | refine bodyQ_ret2 ?_ | refine bodyQ_ret3 ?_ | refine bodyQ_ret4 ?_); (try simp only [EVB, Nat.reduceEqDiff, reduceIte]))
    | (with_reducible refine Cont.use (by assumption) ?_)
    | (with_reducible first | refine hcA ?_ | refine hcB ?_)
    | ((with_reducible show W _ _ (.region _ _ true) _ _ _); first | (refine W_drawn (fl := [true, true, true, true, true, true, true, true, true, true, true, true]) (by decide +kernel) ?_) | (refine W_drawn (fl := [true, true, true, true, true, true, true, true, true, true, true, true, true]) (by decide +kernel) ?_) | (refine W_drawn (fl := [true, true, true, true, true, true, true, true, true, true, true, true, true, true, true, false]) (by decide +kernel) ?_) | (refine W_drawn (fl := [true, true, true, true, true, true, true, true, true, true, true, true, true, true]) (by decide +kernel) ?_) | (refine W_drawn (fl := [true, true, true, false, true, true, true, true, true, true, true, true, true, true, true, true, true, true]) (by decide +kernel) ?_) | (refine W_drawn (fl := [true, true, true, true, true, true, true, true, true, true]) (by decide +kernel) ?_) | (refine W_drawn (fl := [true, true, true, true, true, true, false, true, true, true, true]) (by decide +kernel) ?_))
    | ((with_reducible first | refine W_condG fun cA cB hcA hcB => ?_ | refine W_regionI ?_ | show O _ _ _ _ _ _ _ _ | show OK _ _ _ _ _ _ _ _ _ | show OKF _ _ _ _ _ _ _ _ _ _ | show OKT _ _ _ _ _ _ _ _ _ _ _ _ | show _ ∧ _ | show CG _ _ _ | show CB _ _ _); simp (disch := first | ((with_reducible show isStop _ = false); rfl) | ((with_reducible show isP _ = true); rfl) | ((with_reducible show (isStop _ || isP _) = false); rfl) | assumption | (simp only [GSB, Nat.reduceEqDiff, reduceIte]; done) | omega | (with_reducible decide) | (simp only [DSB, Go.Proofs.YtdfgdpjlbcnkfaaDoorAbs.oneC, Nat.reduceAdd, Nat.reduceLeDiff] <;> omega)) only [↓DN, ↓reduceIte, UP, CGB, Int.reduceEq, Int.reduceLT, Int.reduceLE, Nat.reduceEqDiff, Nat.reduceAdd, Nat.reduceMul, Nat.reduceSub, Int.reduceToNat, Nat.reduceLeDiff, PF, isStop, isP, goInt, beq_self_eq_true, decide_true, decide_false, Int.toNat_natCast, Int.natCast_zero, nn_eq, nn_ne, hb, errW])
    | ((with_reducible refine CB_intro (fun ht => hcA ?_) (fun ht => hcB ?_)) <;> (first | (simp only [Bool.true_eq_false, Bool.false_eq_true] at ht; done) | ((try simp only [Bool.not_eq_true', Bool.not_eq_false'] at ht); (try simp only [ht]); (try simp only [HTN] at ht); (try (exfalso; omega)))))
    | ((with_reducible refine W_regionI ?_); simp only [List.append_eq, List.cons_append, List.nil_append])
    | (with_reducible refine O_splitG fun cA cB hcA hcB => ?_)
    | (exact hq0))
    · repeat' (first
    | (with_reducible first | refine W_pushC fun K hK => ?_ | refine W_blockI ?_ | refine W_scopeI ?_ | refine W_labelI ?_ | refine W_skipI ?_ | refine W_retI ?_ | refine W_exitI ?_ | refine then_normalI ?_ | refine then_retI ?_ | refine then_exitI ?_ | refine inBlock_normalI ?_ | refine inBlock_retI ?_ | refine inBlock_exitI ?_ | refine inBlock_exitN (by decide) ?_)
    | ((with_reducible first | refine bodyQ_normal0 ?_ | refine bodyQ_normal1 ?_ | refine bodyQ_normal2 ?_ | refine bodyQ_normal3 ?_ | refine bodyQ_normal4 ?_ | refine bodyQ_ret0 ?_ | refine bodyQ_ret1 ?_ | refine bodyQ_ret2 ?_ | refine bodyQ_ret3 ?_ | refine bodyQ_ret4 ?_); (try simp only [EVB, Nat.reduceEqDiff, reduceIte]))
    | (with_reducible refine Cont.use (by assumption) ?_)
    | (with_reducible first | refine hcA ?_ | refine hcB ?_)
    | ((with_reducible show W _ _ (.region _ _ true) _ _ _); first | (refine W_drawn (fl := [true, true, true, true, true, true, true, true, true, true, true, true]) (by decide +kernel) ?_) | (refine W_drawn (fl := [true, true, true, true, true, true, true, true, true, true, true, true, true]) (by decide +kernel) ?_) | (refine W_drawn (fl := [true, true, true, true, true, true, true, true, true, true, true, true, true, true, true, false]) (by decide +kernel) ?_) | (refine W_drawn (fl := [true, true, true, true, true, true, true, true, true, true, true, true, true, true]) (by decide +kernel) ?_) | (refine W_drawn (fl := [true, true, true, false, true, true, true, true, true, true, true, true, true, true, true, true, true, true]) (by decide +kernel) ?_) | (refine W_drawn (fl := [true, true, true, true, true, true, true, true, true, true]) (by decide +kernel) ?_) | (refine W_drawn (fl := [true, true, true, true, true, true, false, true, true, true, true]) (by decide +kernel) ?_))
    | ((with_reducible first | refine W_condG fun cA cB hcA hcB => ?_ | refine W_regionI ?_ | show O _ _ _ _ _ _ _ _ | show OK _ _ _ _ _ _ _ _ _ | show OKF _ _ _ _ _ _ _ _ _ _ | show OKT _ _ _ _ _ _ _ _ _ _ _ _ | show _ ∧ _ | show CG _ _ _ | show CB _ _ _); simp (disch := first | ((with_reducible show isStop _ = false); rfl) | ((with_reducible show isP _ = true); rfl) | ((with_reducible show (isStop _ || isP _) = false); rfl) | assumption | (simp only [GSB, Nat.reduceEqDiff, reduceIte]; done) | omega | (with_reducible decide) | (simp only [DSB, Go.Proofs.YtdfgdpjlbcnkfaaDoorAbs.oneC, Nat.reduceAdd, Nat.reduceLeDiff] <;> omega)) only [↓DN, ↓reduceIte, UP, CGB, Int.reduceEq, Int.reduceLT, Int.reduceLE, Nat.reduceEqDiff, Nat.reduceAdd, Nat.reduceMul, Nat.reduceSub, Int.reduceToNat, Nat.reduceLeDiff, PF, isStop, isP, goInt, beq_self_eq_true, decide_true, decide_false, Int.toNat_natCast, Int.natCast_zero, nn_eq, nn_ne, hb, errW])
    | ((with_reducible refine CB_intro (fun ht => hcA ?_) (fun ht => hcB ?_)) <;> (first | (simp only [Bool.true_eq_false, Bool.false_eq_true] at ht; done) | ((try simp only [Bool.not_eq_true', Bool.not_eq_false'] at ht); (try simp only [ht]); (try simp only [HTN] at ht); (try (exfalso; omega)))))
    | ((with_reducible refine W_regionI ?_); simp only [List.append_eq, List.cons_append, List.nil_append])
    | (with_reducible refine O_splitG fun cA cB hcA hcB => ?_)
    | (exact hq0))
  obtain ⟨va, vc, hve, _, _⟩ := id hx
  rcases r with ⟨rk, rl, rm, rn, rd, re⟩
  obtain ⟨rfl, rfl⟩ : rd = false ∧ re = none := by cases rd <;> cases re <;> simp_all
  simp only at hl0 hl1 hk
  subst hk
  simp only [errW] at hb
  have hf : feedC ⟨2, rl, rm, rn, false, none⟩ p xs = ((((feedF p xs).1 : Nat) : Int), (feedF p xs).2.1, ⟨2, rl, rm, rn + (feedF p xs).2.1.length, decide ((feedF p xs).2.2.state = 8), (feedF p xs).2.2.err⟩, (feedF p xs).2.2) := rfl
  rcases he : (feedF p xs).2.2.err with _ | er
  · rw [he] at hf
    rw [hf] at hQ
    have hol := feed_out xs p
    have w1 : IntKind.i64.wrap (rn + ((feedF p xs).2.1.length : Int)) = rn + (feedF p xs).2.1.length := Go.Proofs.YtdfgdpjlbcnkfaaDoorAbs.wp64 (by omega) (by omega)
    subst hve
    repeat' (first
    | (with_reducible first | refine W_pushC fun K hK => ?_ | refine W_blockI ?_ | refine W_scopeI ?_ | refine W_labelI ?_ | refine W_skipI ?_ | refine W_retI ?_ | refine W_exitI ?_ | refine then_normalI ?_ | refine then_retI ?_ | refine then_exitI ?_ | refine inBlock_normalI ?_ | refine inBlock_retI ?_ | refine inBlock_exitI ?_ | refine inBlock_exitN (by decide) ?_)
    | ((with_reducible first | refine bodyQ_normal0 ?_ | refine bodyQ_normal1 ?_ | refine bodyQ_normal2 ?_ | refine bodyQ_normal3 ?_ | refine bodyQ_normal4 ?_ | refine bodyQ_ret0 ?_ | refine bodyQ_ret1 ?_ | refine bodyQ_ret2 ?_ | refine bodyQ_ret3 ?_ | refine bodyQ_ret4 ?_); (try simp only [EVB, Nat.reduceEqDiff, reduceIte]))
    | ((with_reducible show C _ _ _ _ _ _); first | (refine Feed_C h.toHI hR hi hx hv hvn hxn (fun S1 tv1 lv1 m1 ov hR1 hi1 hM hO hon hap => ?_)))
    | (with_reducible refine Cont.use (by assumption) ?_)
    | (with_reducible first | refine hcA ?_ | refine hcB ?_)
    | ((with_reducible show W _ _ (.region _ _ true) _ _ _); first | (refine W_drawn (fl := [true, true, true, true, true, true, true, true, true, true, true, true]) (by decide +kernel) ?_) | (refine W_drawn (fl := [true, true, true, true, true, true, true, true, true, true, true, true, true]) (by decide +kernel) ?_) | (refine W_drawn (fl := [true, true, true, true, true, true, true, true, true, true, true, true, true, true, true, false]) (by decide +kernel) ?_) | (refine W_drawn (fl := [true, true, true, true, true, true, true, true, true, true, true, true, true, true]) (by decide +kernel) ?_) | (refine W_drawn (fl := [true, true, true, false, true, true, true, true, true, true, true, true, true, true, true, true, true, true]) (by decide +kernel) ?_) | (refine W_drawn (fl := [true, true, true, true, true, true, true, true, true, true]) (by decide +kernel) ?_) | (refine W_drawn (fl := [true, true, true, true, true, true, false, true, true, true, true]) (by decide +kernel) ?_))
    | ((with_reducible first | refine W_condG fun cA cB hcA hcB => ?_ | refine W_regionI ?_ | show O _ _ _ _ _ _ _ _ | show OK _ _ _ _ _ _ _ _ _ | show OKF _ _ _ _ _ _ _ _ _ _ | show OKT _ _ _ _ _ _ _ _ _ _ _ _ | show _ ∧ _ | show CG _ _ _ | show CB _ _ _); simp (disch := first | ((with_reducible show isStop _ = false); rfl) | ((with_reducible show isP _ = true); rfl) | ((with_reducible show (isStop _ || isP _) = false); rfl) | assumption | (simp only [GSB, Nat.reduceEqDiff, reduceIte]; done) | omega | (with_reducible decide) | (simp only [DSB, Go.Proofs.YtdfgdpjlbcnkfaaDoorAbs.oneC, Nat.reduceAdd, Nat.reduceLeDiff] <;> omega)) only [↓DN, ↓reduceIte, UP, CGB, Int.reduceEq, Int.reduceLT, Int.reduceLE, Nat.reduceEqDiff, Nat.reduceAdd, Nat.reduceMul, Nat.reduceSub, Int.reduceToNat, Nat.reduceLeDiff, PF, isStop, isP, goInt, beq_self_eq_true, decide_true, decide_false, Int.toNat_natCast, Int.natCast_zero, nn_eq, nn_ne, hb])
    | ((with_reducible refine CB_intro (fun ht => hcA ?_) (fun ht => hcB ?_)) <;> (first | (simp only [Bool.true_eq_false, Bool.false_eq_true] at ht; done) | ((try simp only [Bool.not_eq_true', Bool.not_eq_false'] at ht); (try simp only [ht]); (try simp only [HTN] at ht); (try (exfalso; omega)))))
    | ((with_reducible refine W_regionI ?_); simp only [List.append_eq, List.cons_append, List.nil_append])
    | (with_reducible refine O_splitG fun cA cB hcA hcB => ?_))
    obtain ⟨oa, oc, rfl⟩ := own_slice hO
    have hnb1 : b < S1.next := Nat.lt_of_lt_of_le hnb hM.next
    have hb1 := (hM.keep b hnb hne ht' hl').trans hb
    have t1 : blkOf tv1 ≠ some b := fun e => by rcases hM.t b e with q | q; exact ht' q; omega
    have l1 : blkOf lv1 ≠ some b := fun e => by rcases hM.l b e with q | q; exact hl' q; omega
    have fin : ∀ B : Blk, BMv S (S1.upd b B) b bc tv lv tv1 lv1 := fun B => ⟨hM.next, fun i h1 h2 h3 h4 h5 => (St.get_upd_ne _ B h2).trans (hM.keep i h1 h3 h4 h5), hM.t, hM.l⟩
    have finO : ∀ B : Blk, Own 5 1 (S1.upd b B) (.slice oa (feedF p xs).2.1.length oc) (feedF p xs).2.1.length (u8v (feedF p xs).2.1) := fun B => own_updB hO (fun e => by have := hon _ e; omega) B
    have kB : ∀ B : Blk, Kept S1 (S1.upd b B) (some b) := fun B => kept_upd ⟨Nat.le_refl _, fun _ _ _ => rfl⟩ B
    have finR : ∀ B : Blk, ∃ m, Rd (S1.upd b B) bc (feedF p xs).2.2 tv1 lv1 m := fun B => ⟨m1, hR1.kept (kB B) (fun i e => by cases e; exact ⟨hne, t1, l1⟩)⟩
    repeat' (first
    | (with_reducible first | refine W_pushC fun K hK => ?_ | refine W_blockI ?_ | refine W_scopeI ?_ | refine W_labelI ?_ | refine W_skipI ?_ | refine W_retI ?_ | refine W_exitI ?_ | refine then_normalI ?_ | refine then_retI ?_ | refine then_exitI ?_ | refine inBlock_normalI ?_ | refine inBlock_retI ?_ | refine inBlock_exitI ?_ | refine inBlock_exitN (by decide) ?_)
    | ((with_reducible first | refine bodyQ_normal0 ?_ | refine bodyQ_normal1 ?_ | refine bodyQ_normal2 ?_ | refine bodyQ_normal3 ?_ | refine bodyQ_normal4 ?_ | refine bodyQ_ret0 ?_ | refine bodyQ_ret1 ?_ | refine bodyQ_ret2 ?_ | refine bodyQ_ret3 ?_ | refine bodyQ_ret4 ?_); (try simp only [EVB, Nat.reduceEqDiff, reduceIte]))
    | (with_reducible refine Cont.use (by assumption) ?_)
    | (with_reducible first | refine hcA ?_ | refine hcB ?_)
    | ((with_reducible show W _ _ (.region _ _ true) _ _ _); first | (refine W_drawn (fl := [true, true, true, true, true, true, true, true, true, true, true, true]) (by decide +kernel) ?_) | (refine W_drawn (fl := [true, true, true, true, true, true, true, true, true, true, true, true, true]) (by decide +kernel) ?_) | (refine W_drawn (fl := [true, true, true, true, true, true, true, true, true, true, true, true, true, true, true, false]) (by decide +kernel) ?_) | (refine W_drawn (fl := [true, true, true, true, true, true, true, true, true, true, true, true, true, true]) (by decide +kernel) ?_) | (refine W_drawn (fl := [true, true, true, false, true, true, true, true, true, true, true, true, true, true, true, true, true, true]) (by decide +kernel) ?_) | (refine W_drawn (fl := [true, true, true, true, true, true, true, true, true, true]) (by decide +kernel) ?_) | (refine W_drawn (fl := [true, true, true, true, true, true, false, true, true, true, true]) (by decide +kernel) ?_))
    | ((with_reducible first | refine W_condG fun cA cB hcA hcB => ?_ | refine W_regionI ?_ | show O _ _ _ _ _ _ _ _ | show OK _ _ _ _ _ _ _ _ _ | show OKF _ _ _ _ _ _ _ _ _ _ | show OKT _ _ _ _ _ _ _ _ _ _ _ _ | show _ ∧ _ | show CG _ _ _ | show CB _ _ _); simp (disch := first | ((with_reducible show isStop _ = false); rfl) | ((with_reducible show isP _ = true); rfl) | ((with_reducible show (isStop _ || isP _) = false); rfl) | assumption | (simp only [GSB, Nat.reduceEqDiff, reduceIte]; done) | omega | (with_reducible decide) | (simp only [DSB, Go.Proofs.YtdfgdpjlbcnkfaaDoorAbs.oneC, Nat.reduceAdd, Nat.reduceLeDiff] <;> omega)) only [↓DN, ↓reduceIte, UP, CGB, Int.reduceEq, Int.reduceLT, Int.reduceLE, Nat.reduceEqDiff, Nat.reduceAdd, Nat.reduceMul, Nat.reduceSub, Int.reduceToNat, Nat.reduceLeDiff, PF, isStop, isP, goInt, beq_self_eq_true, decide_true, decide_false, Int.toNat_natCast, Int.natCast_zero, nn_eq, nn_ne, hb1, w1, he, errW])
    | ((with_reducible refine CB_intro (fun ht => hcA ?_) (fun ht => hcB ?_)) <;> (first | (simp only [Bool.true_eq_false, Bool.false_eq_true] at ht; done) | ((try simp only [Bool.not_eq_true', Bool.not_eq_false'] at ht); (try simp only [ht]); (try simp only [HTN] at ht); (try (exfalso; omega)))))
    | ((with_reducible refine W_regionI ?_); simp only [List.append_eq, List.cons_append, List.nil_append])
    | (with_reducible refine O_splitG fun cA cB hcA hcB => ?_)
    | (exact hQ _ _ _ _ ⟨⟨7, Nat.le_refl _, St.get_upd_self _ _ _⟩, hnb1, hne, t1, l1, finR _, hi1⟩ (fin _) (finO _) hon hap))
  · rw [he] at hf
    rw [hf] at hQ
    have hol := feed_out xs p
    have w1 : IntKind.i64.wrap (rn + ((feedF p xs).2.1.length : Int)) = rn + (feedF p xs).2.1.length := Go.Proofs.YtdfgdpjlbcnkfaaDoorAbs.wp64 (by omega) (by omega)
    subst hve
    repeat' (first
    | (with_reducible first | refine W_pushC fun K hK => ?_ | refine W_blockI ?_ | refine W_scopeI ?_ | refine W_labelI ?_ | refine W_skipI ?_ | refine W_retI ?_ | refine W_exitI ?_ | refine then_normalI ?_ | refine then_retI ?_ | refine then_exitI ?_ | refine inBlock_normalI ?_ | refine inBlock_retI ?_ | refine inBlock_exitI ?_ | refine inBlock_exitN (by decide) ?_)
    | ((with_reducible first | refine bodyQ_normal0 ?_ | refine bodyQ_normal1 ?_ | refine bodyQ_normal2 ?_ | refine bodyQ_normal3 ?_ | refine bodyQ_normal4 ?_ | refine bodyQ_ret0 ?_ | refine bodyQ_ret1 ?_ | refine bodyQ_ret2 ?_ | refine bodyQ_ret3 ?_ | refine bodyQ_ret4 ?_); (try simp only [EVB, Nat.reduceEqDiff, reduceIte]))
    | ((with_reducible show C _ _ _ _ _ _); first | (refine Feed_C h.toHI hR hi hx hv hvn hxn (fun S1 tv1 lv1 m1 ov hR1 hi1 hM hO hon hap => ?_)))
    | (with_reducible refine Cont.use (by assumption) ?_)
    | (with_reducible first | refine hcA ?_ | refine hcB ?_)
    | ((with_reducible show W _ _ (.region _ _ true) _ _ _); first | (refine W_drawn (fl := [true, true, true, true, true, true, true, true, true, true, true, true]) (by decide +kernel) ?_) | (refine W_drawn (fl := [true, true, true, true, true, true, true, true, true, true, true, true, true]) (by decide +kernel) ?_) | (refine W_drawn (fl := [true, true, true, true, true, true, true, true, true, true, true, true, true, true, true, false]) (by decide +kernel) ?_) | (refine W_drawn (fl := [true, true, true, true, true, true, true, true, true, true, true, true, true, true]) (by decide +kernel) ?_) | (refine W_drawn (fl := [true, true, true, false, true, true, true, true, true, true, true, true, true, true, true, true, true, true]) (by decide +kernel) ?_) | (refine W_drawn (fl := [true, true, true, true, true, true, true, true, true, true]) (by decide +kernel) ?_) | (refine W_drawn (fl := [true, true, true, true, true, true, false, true, true, true, true]) (by decide +kernel) ?_))
    | ((with_reducible first | refine W_condG fun cA cB hcA hcB => ?_ | refine W_regionI ?_ | show O _ _ _ _ _ _ _ _ | show OK _ _ _ _ _ _ _ _ _ | show OKF _ _ _ _ _ _ _ _ _ _ | show OKT _ _ _ _ _ _ _ _ _ _ _ _ | show _ ∧ _ | show CG _ _ _ | show CB _ _ _); simp (disch := first | ((with_reducible show isStop _ = false); rfl) | ((with_reducible show isP _ = true); rfl) | ((with_reducible show (isStop _ || isP _) = false); rfl) | assumption | (simp only [GSB, Nat.reduceEqDiff, reduceIte]; done) | omega | (with_reducible decide) | (simp only [DSB, Go.Proofs.YtdfgdpjlbcnkfaaDoorAbs.oneC, Nat.reduceAdd, Nat.reduceLeDiff] <;> omega)) only [↓DN, ↓reduceIte, UP, CGB, Int.reduceEq, Int.reduceLT, Int.reduceLE, Nat.reduceEqDiff, Nat.reduceAdd, Nat.reduceMul, Nat.reduceSub, Int.reduceToNat, Nat.reduceLeDiff, PF, isStop, isP, goInt, beq_self_eq_true, decide_true, decide_false, Int.toNat_natCast, Int.natCast_zero, nn_eq, nn_ne, hb])
    | ((with_reducible refine CB_intro (fun ht => hcA ?_) (fun ht => hcB ?_)) <;> (first | (simp only [Bool.true_eq_false, Bool.false_eq_true] at ht; done) | ((try simp only [Bool.not_eq_true', Bool.not_eq_false'] at ht); (try simp only [ht]); (try simp only [HTN] at ht); (try (exfalso; omega)))))
    | ((with_reducible refine W_regionI ?_); simp only [List.append_eq, List.cons_append, List.nil_append])
    | (with_reducible refine O_splitG fun cA cB hcA hcB => ?_))
    obtain ⟨oa, oc, rfl⟩ := own_slice hO
    have hnb1 : b < S1.next := Nat.lt_of_lt_of_le hnb hM.next
    have hb1 := (hM.keep b hnb hne ht' hl').trans hb
    have t1 : blkOf tv1 ≠ some b := fun e => by rcases hM.t b e with q | q; exact ht' q; omega
    have l1 : blkOf lv1 ≠ some b := fun e => by rcases hM.l b e with q | q; exact hl' q; omega
    have fin : ∀ B : Blk, BMv S (S1.upd b B) b bc tv lv tv1 lv1 := fun B => ⟨hM.next, fun i h1 h2 h3 h4 h5 => (St.get_upd_ne _ B h2).trans (hM.keep i h1 h3 h4 h5), hM.t, hM.l⟩
    have finO : ∀ B : Blk, Own 5 1 (S1.upd b B) (.slice oa (feedF p xs).2.1.length oc) (feedF p xs).2.1.length (u8v (feedF p xs).2.1) := fun B => own_updB hO (fun e => by have := hon _ e; omega) B
    have kB : ∀ B : Blk, Kept S1 (S1.upd b B) (some b) := fun B => kept_upd ⟨Nat.le_refl _, fun _ _ _ => rfl⟩ B
    have finR : ∀ B : Blk, ∃ m, Rd (S1.upd b B) bc (feedF p xs).2.2 tv1 lv1 m := fun B => ⟨m1, hR1.kept (kB B) (fun i e => by cases e; exact ⟨hne, t1, l1⟩)⟩
    repeat' (first
    | (with_reducible first | refine W_pushC fun K hK => ?_ | refine W_blockI ?_ | refine W_scopeI ?_ | refine W_labelI ?_ | refine W_skipI ?_ | refine W_retI ?_ | refine W_exitI ?_ | refine then_normalI ?_ | refine then_retI ?_ | refine then_exitI ?_ | refine inBlock_normalI ?_ | refine inBlock_retI ?_ | refine inBlock_exitI ?_ | refine inBlock_exitN (by decide) ?_)
    | ((with_reducible first | refine bodyQ_normal0 ?_ | refine bodyQ_normal1 ?_ | refine bodyQ_normal2 ?_ | refine bodyQ_normal3 ?_ | refine bodyQ_normal4 ?_ | refine bodyQ_ret0 ?_ | refine bodyQ_ret1 ?_ | refine bodyQ_ret2 ?_ | refine bodyQ_ret3 ?_ | refine bodyQ_ret4 ?_); (try simp only [EVB, Nat.reduceEqDiff, reduceIte]))
    | (with_reducible refine Cont.use (by assumption) ?_)
    | (with_reducible first | refine hcA ?_ | refine hcB ?_)
    | ((with_reducible show W _ _ (.region _ _ true) _ _ _); first | (refine W_drawn (fl := [true, true, true, true, true, true, true, true, true, true, true, true]) (by decide +kernel) ?_) | (refine W_drawn (fl := [true, true, true, true, true, true, true, true, true, true, true, true, true]) (by decide +kernel) ?_) | (refine W_drawn (fl := [true, true, true, true, true, true, true, true, true, true, true, true, true, true, true, false]) (by decide +kernel) ?_) | (refine W_drawn (fl := [true, true, true, true, true, true, true, true, true, true, true, true, true, true]) (by decide +kernel) ?_) | (refine W_drawn (fl := [true, true, true, false, true, true, true, true, true, true, true, true, true, true, true, true, true, true]) (by decide +kernel) ?_) | (refine W_drawn (fl := [true, true, true, true, true, true, true, true, true, true]) (by decide +kernel) ?_) | (refine W_drawn (fl := [true, true, true, true, true, true, false, true, true, true, true]) (by decide +kernel) ?_))
    | ((with_reducible first | refine W_condG fun cA cB hcA hcB => ?_ | refine W_regionI ?_ | show O _ _ _ _ _ _ _ _ | show OK _ _ _ _ _ _ _ _ _ | show OKF _ _ _ _ _ _ _ _ _ _ | show OKT _ _ _ _ _ _ _ _ _ _ _ _ | show _ ∧ _ | show CG _ _ _ | show CB _ _ _); simp (disch := first | ((with_reducible show isStop _ = false); rfl) | ((with_reducible show isP _ = true); rfl) | ((with_reducible show (isStop _ || isP _) = false); rfl) | assumption | (simp only [GSB, Nat.reduceEqDiff, reduceIte]; done) | omega | (with_reducible decide) | (simp only [DSB, Go.Proofs.YtdfgdpjlbcnkfaaDoorAbs.oneC, Nat.reduceAdd, Nat.reduceLeDiff] <;> omega)) only [↓DN, ↓reduceIte, UP, CGB, Int.reduceEq, Int.reduceLT, Int.reduceLE, Nat.reduceEqDiff, Nat.reduceAdd, Nat.reduceMul, Nat.reduceSub, Int.reduceToNat, Nat.reduceLeDiff, PF, isStop, isP, goInt, beq_self_eq_true, decide_true, decide_false, Int.toNat_natCast, Int.natCast_zero, nn_eq, nn_ne, hb1, w1, he, errW])
    | ((with_reducible refine CB_intro (fun ht => hcA ?_) (fun ht => hcB ?_)) <;> (first | (simp only [Bool.true_eq_false, Bool.false_eq_true] at ht; done) | ((try simp only [Bool.not_eq_true', Bool.not_eq_false'] at ht); (try simp only [ht]); (try simp only [HTN] at ht); (try (exfalso; omega)))))
    | ((with_reducible refine W_regionI ?_); simp only [List.append_eq, List.cons_append, List.nil_append])
    | (with_reducible refine O_splitG fun cA cB hcA hcB => ?_)
    | (exact hQ _ _ _ _ ⟨⟨7, Nat.le_refl _, St.get_upd_self _ _ _⟩, hnb1, hne, t1, l1, finR _, hi1⟩ (fin _) (finO _) hon hap))
end
end Go.Proofs.YtdfgdpjlbcnkfaaDoor.Q
namespace Go.Proofs.YtdfgdpjlbcnkfaaDoor.Q
open Go Go.Proofs.YtdfgdpjlbcnkfaaDoorAbs Go.Proofs
set_option linter.unusedVariables false
set_option linter.unusedSimpArgs false
set_option maxRecDepth 100000
set_option maxHeartbeats 4000000
attribute [local irreducible] Go.Proofs.YtdfgdpjlbcnkfaaDoorAbs.O Go.Proofs.YtdfgdpjlbcnkfaaDoorAbs.W Go.Proofs.YtdfgdpjlbcnkfaaDoorAbs.C Go.Proofs.YtdfgdpjlbcnkfaaDoorAbs.OK Go.Proofs.YtdfgdpjlbcnkfaaDoorAbs.OKF Go.Proofs.YtdfgdpjlbcnkfaaDoorAbs.OKT Go.Proofs.YtdfgdpjlbcnkfaaDoorAbs.then_ Go.Proofs.YtdfgdpjlbcnkfaaDoorAbs.inBlock_ Go.Proofs.YtdfgdpjlbcnkfaaDoorAbs.bodyQ Go.Proofs.YtdfgdpjlbcnkfaaDoorAbs.Cont
def endB (r : BR) : Option Int × BR :=
  if r.err.isSome = true ∨ r.done = true then (r.err, r)
  else if r.kind = 3 then (none, { r with done := true })
  else (some 32, { r with err := some 32 })
section
variable {I : Prims} {S : St} {Q : Value → St → Prop}
theorem BEnd_C (h : HB I) {b m : Nat} {r : BR} {q : Option Addr} (hb : S.get b = some ⟨r.cells (.pointer q), 73, true, m⟩) (hm : m ≤ 7) (hnb : b < S.next)
    (hQ : ∀ S' m', S'.get b = some ⟨(endB r).2.cells (.pointer q), 73, true, m'⟩ → m' ≤ 7 → S' = S ∨ (∃ B, S' = S.upd b B) → Q (errW (endB r).1) S') :
    C Tryd.prog I 25 #[.pointer (some ⟨b, 0, some 7⟩)] S Q := by
  refine C_body (rs := [.tmp 2]) (h.no 25 (by decide)) Tryd.func25 rfl rfl ok25 ?_
  obtain ⟨u22, sz5, u5, u9, u3, u29, u34, u33, sz3, u4, u41, sz66, u46, sz28, u47, u52, sz22, sz62, sz24, sz59, u59, sz60, u60, sz41, sz58, u58, sz73, sz34, sz4, sz9, sz83, u88, sz86, u112, sz118, u118, u2, sz126, u126, u21, sz130, u130, u139, u140, sz141, u141, u145, u148, sz147, u154, u155⟩ := UF
  have hb0 := hb
  simp only [BR.cells] at hb
  rcases r with ⟨rk, rl, rm, rn, rd, _ | re⟩
  · cases rd
    · by_cases k3 : rk = 3
      · subst k3
        have hf : endB ⟨3, rl, rm, rn, false, none⟩ = (none, ⟨3, rl, rm, rn, true, none⟩) := rfl
        rw [hf] at hQ
        repeat' (first
    | (with_reducible first | refine W_pushC fun K hK => ?_ | refine W_blockI ?_ | refine W_scopeI ?_ | refine W_labelI ?_ | refine W_skipI ?_ | refine W_retI ?_ | refine W_exitI ?_ | refine then_normalI ?_ | refine then_retI ?_ | refine then_exitI ?_ | refine inBlock_normalI ?_ | refine inBlock_retI ?_ | refine inBlock_exitI ?_ | refine inBlock_exitN (by decide) ?_)
    | ((with_reducible first | refine bodyQ_normal0 ?_ | refine bodyQ_normal1 ?_ | refine bodyQ_normal2 ?_ | refine bodyQ_normal3 ?_ | refine bodyQ_normal4 ?_ | refine bodyQ_ret0 ?_ | refine bodyQ_ret1 ?_ | refine bodyQ_ret2 ?_ | refine bodyQ_ret3 ?_ | refine bodyQ_ret4 ?_); (try simp only [EVB, Nat.reduceEqDiff, reduceIte]))
    | (with_reducible refine Cont.use (by assumption) ?_)
    | (with_reducible first | refine hcA ?_ | refine hcB ?_)
    | ((with_reducible first | refine W_condG fun cA cB hcA hcB => ?_ | refine W_regionI ?_ | show O _ _ _ _ _ _ _ _ | show OK _ _ _ _ _ _ _ _ _ | show OKF _ _ _ _ _ _ _ _ _ _ | show OKT _ _ _ _ _ _ _ _ _ _ _ _ | show _ ∧ _ | show CG _ _ _ | show CB _ _ _); simp (disch := first | ((with_reducible show isStop _ = false); rfl) | ((with_reducible show isP _ = true); rfl) | ((with_reducible show (isStop _ || isP _) = false); rfl) | assumption | (simp only [GSB, Nat.reduceEqDiff, reduceIte]; done) | omega | (with_reducible decide) | (simp only [DSB, Go.Proofs.YtdfgdpjlbcnkfaaDoorAbs.oneC, Nat.reduceAdd, Nat.reduceLeDiff] <;> omega)) only [↓DN, ↓reduceIte, UP, CGB, Int.reduceEq, Int.reduceLT, Int.reduceLE, Nat.reduceEqDiff, Nat.reduceAdd, Nat.reduceMul, Nat.reduceSub, Int.reduceToNat, Nat.reduceLeDiff, PF, isStop, isP, goInt, beq_self_eq_true, decide_true, decide_false, Int.toNat_natCast, Int.natCast_zero, nn_eq, nn_ne, hb, errW])
    | ((with_reducible refine CB_intro (fun ht => hcA ?_) (fun ht => hcB ?_)) <;> (first | (simp only [Bool.true_eq_false, Bool.false_eq_true] at ht; done) | ((try simp only [Bool.not_eq_true', Bool.not_eq_false'] at ht); (try simp only [ht]); (try simp only [HTN] at ht); (try (exfalso; omega)))))
    | ((with_reducible refine W_regionI ?_); simp only [List.append_eq, List.cons_append, List.nil_append])
    | (with_reducible refine O_splitG fun cA cB hcA hcB => ?_)
    | (exact hQ _ 7 (St.get_upd_self _ _ _) (Nat.le_refl _) (.inr ⟨_, rfl⟩)))
      · have hf : endB ⟨rk, rl, rm, rn, false, none⟩ = (some 32, ⟨rk, rl, rm, rn, false, some 32⟩) := by simp [endB, k3]
        rw [hf] at hQ
        have d3 : decide (rk = 3) = false := decide_eq_false k3
        repeat' (first
    | (with_reducible first | refine W_pushC fun K hK => ?_ | refine W_blockI ?_ | refine W_scopeI ?_ | refine W_labelI ?_ | refine W_skipI ?_ | refine W_retI ?_ | refine W_exitI ?_ | refine then_normalI ?_ | refine then_retI ?_ | refine then_exitI ?_ | refine inBlock_normalI ?_ | refine inBlock_retI ?_ | refine inBlock_exitI ?_ | refine inBlock_exitN (by decide) ?_)
    | ((with_reducible first | refine bodyQ_normal0 ?_ | refine bodyQ_normal1 ?_ | refine bodyQ_normal2 ?_ | refine bodyQ_normal3 ?_ | refine bodyQ_normal4 ?_ | refine bodyQ_ret0 ?_ | refine bodyQ_ret1 ?_ | refine bodyQ_ret2 ?_ | refine bodyQ_ret3 ?_ | refine bodyQ_ret4 ?_); (try simp only [EVB, Nat.reduceEqDiff, reduceIte]))
    | (with_reducible refine Cont.use (by assumption) ?_)
    | (with_reducible first | refine hcA ?_ | refine hcB ?_)
    | ((with_reducible first | refine W_condG fun cA cB hcA hcB => ?_ | refine W_regionI ?_ | show O _ _ _ _ _ _ _ _ | show OK _ _ _ _ _ _ _ _ _ | show OKF _ _ _ _ _ _ _ _ _ _ | show OKT _ _ _ _ _ _ _ _ _ _ _ _ | show _ ∧ _ | show CG _ _ _ | show CB _ _ _); simp (disch := first | ((with_reducible show isStop _ = false); rfl) | ((with_reducible show isP _ = true); rfl) | ((with_reducible show (isStop _ || isP _) = false); rfl) | assumption | (simp only [GSB, Nat.reduceEqDiff, reduceIte]; done) | omega | (with_reducible decide) | (simp only [DSB, Go.Proofs.YtdfgdpjlbcnkfaaDoorAbs.oneC, Nat.reduceAdd, Nat.reduceLeDiff] <;> omega)) only [↓DN, ↓reduceIte, UP, CGB, Int.reduceEq, Int.reduceLT, Int.reduceLE, Nat.reduceEqDiff, Nat.reduceAdd, Nat.reduceMul, Nat.reduceSub, Int.reduceToNat, Nat.reduceLeDiff, PF, isStop, isP, goInt, beq_self_eq_true, decide_true, decide_false, Int.toNat_natCast, Int.natCast_zero, nn_eq, nn_ne, hb, errW, d3])
    | ((with_reducible refine CB_intro (fun ht => hcA ?_) (fun ht => hcB ?_)) <;> (first | (simp only [Bool.true_eq_false, Bool.false_eq_true] at ht; done) | ((try simp only [Bool.not_eq_true', Bool.not_eq_false'] at ht); (try simp only [ht]); (try simp only [HTN] at ht); (try (exfalso; omega)))))
    | ((with_reducible refine W_regionI ?_); simp only [List.append_eq, List.cons_append, List.nil_append])
    | (with_reducible refine O_splitG fun cA cB hcA hcB => ?_)
    | (exact hQ _ 7 (St.get_upd_self _ _ _) (Nat.le_refl _) (.inr ⟨_, rfl⟩)))
    · repeat' (first
    | (with_reducible first | refine W_pushC fun K hK => ?_ | refine W_blockI ?_ | refine W_scopeI ?_ | refine W_labelI ?_ | refine W_skipI ?_ | refine W_retI ?_ | refine W_exitI ?_ | refine then_normalI ?_ | refine then_retI ?_ | refine then_exitI ?_ | refine inBlock_normalI ?_ | refine inBlock_retI ?_ | refine inBlock_exitI ?_ | refine inBlock_exitN (by decide) ?_)
    | ((with_reducible first | refine bodyQ_normal0 ?_ | refine bodyQ_normal1 ?_ | refine bodyQ_normal2 ?_ | refine bodyQ_normal3 ?_ | refine bodyQ_normal4 ?_ | refine bodyQ_ret0 ?_ | refine bodyQ_ret1 ?_ | refine bodyQ_ret2 ?_ | refine bodyQ_ret3 ?_ | refine bodyQ_ret4 ?_); (try simp only [EVB, Nat.reduceEqDiff, reduceIte]))
    | (with_reducible refine Cont.use (by assumption) ?_)
    | (with_reducible first | refine hcA ?_ | refine hcB ?_)
    | ((with_reducible first | refine W_condG fun cA cB hcA hcB => ?_ | refine W_regionI ?_ | show O _ _ _ _ _ _ _ _ | show OK _ _ _ _ _ _ _ _ _ | show OKF _ _ _ _ _ _ _ _ _ _ | show OKT _ _ _ _ _ _ _ _ _ _ _ _ | show _ ∧ _ | show CG _ _ _ | show CB _ _ _); simp (disch := first | ((with_reducible show isStop _ = false); rfl) | ((with_reducible show isP _ = true); rfl) | ((with_reducible show (isStop _ || isP _) = false); rfl) | assumption | (simp only [GSB, Nat.reduceEqDiff, reduceIte]; done) | omega | (with_reducible decide) | (simp only [DSB, Go.Proofs.YtdfgdpjlbcnkfaaDoorAbs.oneC, Nat.reduceAdd, Nat.reduceLeDiff] <;> omega)) only [↓DN, ↓reduceIte, UP, CGB, Int.reduceEq, Int.reduceLT, Int.reduceLE, Nat.reduceEqDiff, Nat.reduceAdd, Nat.reduceMul, Nat.reduceSub, Int.reduceToNat, Nat.reduceLeDiff, PF, isStop, isP, goInt, beq_self_eq_true, decide_true, decide_false, Int.toNat_natCast, Int.natCast_zero, nn_eq, nn_ne, hb, errW])
    | ((with_reducible refine CB_intro (fun ht => hcA ?_) (fun ht => hcB ?_)) <;> (first | (simp only [Bool.true_eq_false, Bool.false_eq_true] at ht; done) | ((try simp only [Bool.not_eq_true', Bool.not_eq_false'] at ht); (try simp only [ht]); (try simp only [HTN] at ht); (try (exfalso; omega)))))
    | ((with_reducible refine W_regionI ?_); simp only [List.append_eq, List.cons_append, List.nil_append])
    | (with_reducible refine O_splitG fun cA cB hcA hcB => ?_)
    | (exact hQ _ _ hb0 hm (.inl rfl)))
  · repeat' (first
    | (with_reducible first | refine W_pushC fun K hK => ?_ | refine W_blockI ?_ | refine W_scopeI ?_ | refine W_labelI ?_ | refine W_skipI ?_ | refine W_retI ?_ | refine W_exitI ?_ | refine then_normalI ?_ | refine then_retI ?_ | refine then_exitI ?_ | refine inBlock_normalI ?_ | refine inBlock_retI ?_ | refine inBlock_exitI ?_ | refine inBlock_exitN (by decide) ?_)
    | ((with_reducible first | refine bodyQ_normal0 ?_ | refine bodyQ_normal1 ?_ | refine bodyQ_normal2 ?_ | refine bodyQ_normal3 ?_ | refine bodyQ_normal4 ?_ | refine bodyQ_ret0 ?_ | refine bodyQ_ret1 ?_ | refine bodyQ_ret2 ?_ | refine bodyQ_ret3 ?_ | refine bodyQ_ret4 ?_); (try simp only [EVB, Nat.reduceEqDiff, reduceIte]))
    | (with_reducible refine Cont.use (by assumption) ?_)
    | (with_reducible first | refine hcA ?_ | refine hcB ?_)
    | ((with_reducible first | refine W_condG fun cA cB hcA hcB => ?_ | refine W_regionI ?_ | show O _ _ _ _ _ _ _ _ | show OK _ _ _ _ _ _ _ _ _ | show OKF _ _ _ _ _ _ _ _ _ _ | show OKT _ _ _ _ _ _ _ _ _ _ _ _ | show _ ∧ _ | show CG _ _ _ | show CB _ _ _); simp (disch := first | ((with_reducible show isStop _ = false); rfl) | ((with_reducible show isP _ = true); rfl) | ((with_reducible show (isStop _ || isP _) = false); rfl) | assumption | (simp only [GSB, Nat.reduceEqDiff, reduceIte]; done) | omega | (with_reducible decide) | (simp only [DSB, Go.Proofs.YtdfgdpjlbcnkfaaDoorAbs.oneC, Nat.reduceAdd, Nat.reduceLeDiff] <;> omega)) only [↓DN, ↓reduceIte, UP, CGB, Int.reduceEq, Int.reduceLT, Int.reduceLE, Nat.reduceEqDiff, Nat.reduceAdd, Nat.reduceMul, Nat.reduceSub, Int.reduceToNat, Nat.reduceLeDiff, PF, isStop, isP, goInt, beq_self_eq_true, decide_true, decide_false, Int.toNat_natCast, Int.natCast_zero, nn_eq, nn_ne, hb, errW])
    | ((with_reducible refine CB_intro (fun ht => hcA ?_) (fun ht => hcB ?_)) <;> (first | (simp only [Bool.true_eq_false, Bool.false_eq_true] at ht; done) | ((try simp only [Bool.not_eq_true', Bool.not_eq_false'] at ht); (try simp only [ht]); (try simp only [HTN] at ht); (try (exfalso; omega)))))
    | ((with_reducible refine W_regionI ?_); simp only [List.append_eq, List.cons_append, List.nil_append])
    | (with_reducible refine O_splitG fun cA cB hcA hcB => ?_)
    | (exact hQ _ _ hb0 hm (.inl rfl)))
end
end Go.Proofs.YtdfgdpjlbcnkfaaDoor.Q
namespace Go.Proofs.YtdfgdpjlbcnkfaaDoor.Q
open Go Go.Proofs.YtdfgdpjlbcnkfaaDoorAbs Go.Proofs
set_option linter.unusedVariables false
set_option linter.unusedSimpArgs false
set_option maxRecDepth 100000
set_option maxHeartbeats 4000000
attribute [local irreducible] Go.Proofs.YtdfgdpjlbcnkfaaDoorAbs.O Go.Proofs.YtdfgdpjlbcnkfaaDoorAbs.W Go.Proofs.YtdfgdpjlbcnkfaaDoorAbs.C Go.Proofs.YtdfgdpjlbcnkfaaDoorAbs.OK Go.Proofs.YtdfgdpjlbcnkfaaDoorAbs.OKF Go.Proofs.YtdfgdpjlbcnkfaaDoorAbs.OKT Go.Proofs.YtdfgdpjlbcnkfaaDoorAbs.then_ Go.Proofs.YtdfgdpjlbcnkfaaDoorAbs.inBlock_ Go.Proofs.YtdfgdpjlbcnkfaaDoorAbs.bodyQ Go.Proofs.YtdfgdpjlbcnkfaaDoorAbs.Cont
inductive RB (S : St) (b : Nat) : BR → Option PRd → (Nat → Prop) → Prop
  | plain {r : BR} (m : Nat) (hm : m ≤ 7) (hk : r.kind ≠ 2) (hb : S.get b = some ⟨r.cells (.pointer none), 73, true, m⟩) (hn : b < S.next) : RB S b r none (fun i => i = b)
  | chunk {r : BR} {p : PRd} (bc : Nat) (tv lv : Value) (hk : r.kind = 2) (hB : BC S b bc r p tv lv) : RB S b r (some p) (fun i => i = b ∨ i = bc ∨ blkOf tv = some i ∨ blkOf lv = some i)
structure Fp (S S' : St) (F F' : Nat → Prop) : Prop where
  next : S.next ≤ S'.next
  keep : ∀ i, i < S.next → ¬ F i → S'.get i = S.get i
  fp : ∀ i, F' i → F i ∨ S.next ≤ i
theorem Fp.refl {S : St} {F : Nat → Prop} : Fp S S F F := ⟨Nat.le_refl _, fun _ _ _ => rfl, fun _ h => .inl h⟩
def feedX (r : BR) (p : Option PRd) (xs : List UInt8) : Int × List UInt8 × BR × Option PRd :=
  match p with
  | none => ((feedB r xs).1, (feedB r xs).2.1, (feedB r xs).2.2, none)
  | some p => ((feedC r p xs).1, (feedC r p xs).2.1, (feedC r p xs).2.2.1, some (feedC r p xs).2.2.2)
theorem feedB_kind (r : BR) (xs : List UInt8) : (feedB r xs).2.2.kind = r.kind := by unfold feedB; split <;> (try split) <;> (try split) <;> rfl
theorem feedC_kind (r : BR) (p : PRd) (xs : List UInt8) : (feedC r p xs).2.2.1.kind = r.kind := by unfold feedC; split <;> rfl
theorem BC.kept {S S' : St} {b bc : Nat} {r : BR} {p : PRd} {tv lv : Value} (h : BC S b bc r p tv lv) {o : Option Nat} (k : Kept S S' o) (ho : ∀ i, o = some i → i ≠ b ∧ i ≠ bc ∧ blkOf tv ≠ some i ∧ blkOf lv ≠ some i) : BC S' b bc r p tv lv := by
  obtain ⟨⟨m, hm, hb⟩, hn, ne, t, l, ⟨mr, rd⟩, inv⟩ := h
  exact ⟨⟨m, hm, (k.2 b hn (fun e => (ho b e).1 rfl)).trans hb⟩, Nat.lt_of_lt_of_le hn k.1, ne, t, l, ⟨mr, rd.kept k (fun i e => (ho i e).2)⟩, inv⟩
theorem RB.kept {S S' : St} {b : Nat} {r : BR} {p : Option PRd} {F : Nat → Prop} (h : RB S b r p F) {o : Option Nat} (k : Kept S S' o) (ho : ∀ i, o = some i → ¬ F i) : RB S' b r p F := by
  cases h with
  | plain m hm hk hb hn => exact .plain m hm hk ((k.2 b hn (fun e => ho b e rfl)).trans hb) (Nat.lt_of_lt_of_le hn k.1)
  | chunk bc tv lv hk hB => exact .chunk bc tv lv hk (hB.kept k (fun i e => by have := ho i e; simp only [not_or] at this; exact this))
section
variable {I : Prims} {S : St} {Q : Value → St → Prop}
theorem XFeed_C (h : HB I) {b : Nat} {r : BR} {p : Option PRd} {F : Nat → Prop} {v : Value} {xs : List UInt8} (hR : RB S b r p F) (hi : BInv r) (hx : Sl S v xs) (hs : Sv v xs) (hv : ∀ i, blkOf v = some i → ¬ F i ∧ i < S.next) (hxn : xs.length ≤ 1099511627776)
    (hQ : ∀ S' F' ov, RB S' b (feedX r p xs).2.2.1 (feedX r p xs).2.2.2 F' → Fp S S' F F' → Own 5 1 S' ov (feedX r p xs).2.1.length (u8v (feedX r p xs).2.1) → (∀ i, blkOf ov = some i → S.next ≤ i ∧ ¬ F' i) →
      Q (.tuple #[.int .i64 (feedX r p xs).1, ov, .bool (feedX r p xs).2.2.1.done, errW (feedX r p xs).2.2.1.err]) S') :
    C Tryd.prog I 24 #[.pointer (some ⟨b, 0, some 7⟩), v] S Q := by
  cases hR with
  | plain m hm hk hb hn =>
    refine BFeed_C h hb hm hn hk hi hx hs hxn (fun S' m' ov h1 h2 h3 h4 h5 => ?_)
    exact hQ S' _ ov (.plain m' h2 (by show (feedB r xs).2.2.kind ≠ 2; rw [feedB_kind]; exact hk) h1 (Nat.lt_of_lt_of_le hn h3.1)) ⟨h3.1, fun i hi hf => h3.2 i hi (fun e => hf (by cases e; rfl)), fun i hf => .inl hf⟩ h4 (fun i e => ⟨h5 i e, fun q => by have := h5 i e; omega⟩)
  | chunk bc tv lv hk hB =>
    rename_i p
    refine CFeed_C h hB hk hi.l0 hi.l1 hx (fun i e => ?_) (fun i e => (hv i e).2) hxn (fun S' tv' lv' ov h1 h2 h3 h4 h5 => ?_)
    · have := (hv i e).1; simp only [not_or] at this; exact this.2
    · refine hQ S' _ ov (.chunk bc tv' lv' (by show (feedC r p xs).2.2.1.kind = 2; rw [feedC_kind]; exact hk) h1) ⟨h2.next, fun i hi hf => ?_, fun i hf => ?_⟩ h3 (fun i e => ⟨h4 i e, fun q => ?_⟩)
      · simp only [not_or] at hf; exact h2.keep i hi hf.1 hf.2.1 hf.2.2.1 hf.2.2.2
      · rcases hf with q | q | q | q
        · exact .inl (.inl q)
        · exact .inl (.inr (.inl q))
        · exact (h2.t i q).imp (fun z => .inr (.inr (.inl z))) id
        · exact (h2.l i q).imp (fun z => .inr (.inr (.inr z))) id
      · have h6 := h4 i e; have h7 := h5 i e; have h8 := hB.hn
        rcases q with q | q | q | q
        · omega
        · exact h7.1 q
        · exact h7.2.1 q
        · exact h7.2.2 q
theorem XEnd_C (h : HB I) {b : Nat} {r : BR} {p : Option PRd} {F : Nat → Prop} (hR : RB S b r p F) (hQ : ∀ S', RB S' b (endB r).2 p F → Fp S S' F F → Q (errW (endB r).1) S') : C Tryd.prog I 25 #[.pointer (some ⟨b, 0, some 7⟩)] S Q := by
  have hkd : (endB r).2.kind = r.kind := by unfold endB; split <;> (try split) <;> rfl
  cases hR with
  | plain m hm hk hb hn =>
    refine BEnd_C h hb hm hn (fun S' m' h1 h2 h3 => ?_)
    rcases h3 with rfl | ⟨B, rfl⟩
    · exact hQ _ (.plain m' h2 (by rw [hkd]; exact hk) h1 hn) Fp.refl
    · exact hQ _ (.plain m' h2 (by rw [hkd]; exact hk) h1 hn) ⟨Nat.le_refl _, fun i _ hf => St.get_upd_ne _ _ hf, fun _ q => .inl q⟩
  | chunk bc tv lv hk hB =>
    obtain ⟨⟨m, hm, hb⟩, hn, ne, t, l, ⟨mr, rd⟩, inv⟩ := id hB
    refine BEnd_C h hb hm hn (fun S' m' h1 h2 h3 => ?_)
    rcases h3 with rfl | ⟨B, rfl⟩
    · exact hQ _ (.chunk bc tv lv (by rw [hkd]; exact hk) ⟨⟨m', h2, h1⟩, hn, ne, t, l, ⟨mr, rd⟩, inv⟩) Fp.refl
    · have kB : Kept S (S.upd b B) (some b) := kept_upd ⟨Nat.le_refl _, fun _ _ _ => rfl⟩ B
      exact hQ _ (.chunk bc tv lv (by rw [hkd]; exact hk) ⟨⟨m', h2, h1⟩, hn, ne, t, l, ⟨mr, rd.kept kB (fun i e => by cases e; exact ⟨ne, t, l⟩)⟩, inv⟩) ⟨Nat.le_refl _, fun i _ hf => St.get_upd_ne _ _ (fun e => hf (.inl e)), fun _ q => .inl q⟩
end
end Go.Proofs.YtdfgdpjlbcnkfaaDoor.Q
namespace Go.Proofs.YtdfgdpjlbcnkfaaDoor.Q
open Go Go.Proofs.YtdfgdpjlbcnkfaaDoorAbs Go.Proofs
set_option linter.unusedVariables false
set_option linter.unusedSimpArgs false
end Go.Proofs.YtdfgdpjlbcnkfaaDoor.Q
namespace Go.Proofs.YtdfgdpjlbcnkfaaDoor.Q
open Go Go.Proofs.YtdfgdpjlbcnkfaaDoorAbs Go.Proofs
set_option linter.unusedVariables false
set_option linter.unusedSimpArgs false
set_option maxRecDepth 100000
set_option maxHeartbeats 4000000
attribute [local irreducible] Go.Proofs.YtdfgdpjlbcnkfaaDoorAbs.O Go.Proofs.YtdfgdpjlbcnkfaaDoorAbs.W Go.Proofs.YtdfgdpjlbcnkfaaDoorAbs.C Go.Proofs.YtdfgdpjlbcnkfaaDoorAbs.OK Go.Proofs.YtdfgdpjlbcnkfaaDoorAbs.OKF Go.Proofs.YtdfgdpjlbcnkfaaDoorAbs.OKT Go.Proofs.YtdfgdpjlbcnkfaaDoorAbs.then_ Go.Proofs.YtdfgdpjlbcnkfaaDoorAbs.inBlock_ Go.Proofs.YtdfgdpjlbcnkfaaDoorAbs.bodyQ Go.Proofs.YtdfgdpjlbcnkfaaDoorAbs.Cont
section
variable {I : Prims} {S : St} {Q : Value → St → Prop}
end
end Go.Proofs.YtdfgdpjlbcnkfaaDoor.Q
namespace Go.Proofs.YtdfgdpjlbcnkfaaDoor.Q
open Go Go.Proofs.YtdfgdpjlbcnkfaaDoorAbs Go.Proofs
set_option linter.unusedVariables false
set_option linter.unusedSimpArgs false
set_option maxRecDepth 100000
set_option maxHeartbeats 4000000
attribute [local irreducible] Go.Proofs.YtdfgdpjlbcnkfaaDoorAbs.O Go.Proofs.YtdfgdpjlbcnkfaaDoorAbs.W Go.Proofs.YtdfgdpjlbcnkfaaDoorAbs.C Go.Proofs.YtdfgdpjlbcnkfaaDoorAbs.OK Go.Proofs.YtdfgdpjlbcnkfaaDoorAbs.OKF Go.Proofs.YtdfgdpjlbcnkfaaDoorAbs.OKT Go.Proofs.YtdfgdpjlbcnkfaaDoorAbs.then_ Go.Proofs.YtdfgdpjlbcnkfaaDoorAbs.inBlock_ Go.Proofs.YtdfgdpjlbcnkfaaDoorAbs.bodyQ Go.Proofs.YtdfgdpjlbcnkfaaDoorAbs.Cont
section
variable {I : Prims} {S : St} {Q : Value → St → Prop}
def newX (k : Int) (most : Int) : Option PRd := if k = 2 then some (CR.fresh [] [] (boundB most)) else none
theorem own_fp {S S' : St} {el sz n : Nat} {v : Value} {xs : List Value} {F1 F1' : Nat → Prop} (h : Own el sz S v n xs) (k : Fp S S' F1 F1') (hd : ∀ i, blkOf v = some i → ¬ F1 i) : Own el sz S' v n xs := by
  refine ⟨h.1, h.2.1, ?_⟩
  rcases h.2.2 with q | ⟨b, m, rfl, h1, h2, h3, h4⟩
  · exact .inl q
  · exact .inr ⟨b, m, rfl, (k.keep b h3 (hd b rfl)).trans h1, h2, Nat.lt_of_lt_of_le h3 k.next, h4⟩
theorem RB.fp {S S' : St} {b : Nat} {r : BR} {p : Option PRd} {F F1 F1' : Nat → Prop} (h : RB S b r p F) (k : Fp S S' F1 F1') (hd : ∀ i, F i → ¬ F1 i) : RB S' b r p F := by
  cases h with
  | plain m hm hk hb hn => exact .plain m hm hk ((k.keep b hn (hd b rfl)).trans hb) (Nat.lt_of_lt_of_le hn k.next)
  | chunk bc tv lv hk hB =>
    obtain ⟨⟨m, hm, hb⟩, hn, ne, t, l, ⟨mr, rd⟩, inv⟩ := hB
    exact .chunk bc tv lv hk ⟨⟨m, hm, (k.keep b hn (hd b (.inl rfl))).trans hb⟩, Nat.lt_of_lt_of_le hn k.next, ne, t, l, ⟨mr, (k.keep bc rd.hn (hd bc (.inr (.inl rfl)))).trans rd.cell, rd.hm, Nat.lt_of_lt_of_le rd.hn k.next,
      own_fp rd.text k (fun i e => hd i (.inr (.inr (.inl e)))), own_fp rd.trl k (fun i e => hd i (.inr (.inr (.inr e)))), rd.n1, rd.n2, rd.n3⟩, inv⟩
end
end Go.Proofs.YtdfgdpjlbcnkfaaDoor.Q
namespace Go.Proofs.YtdfgdpjlbcnkfaaDoor.Q
open Go Go.Proofs.YtdfgdpjlbcnkfaaDoorAbs Go.Proofs
set_option linter.unusedVariables false
set_option linter.unusedSimpArgs false
def hexD (d : Nat) : UInt8 := if d < 10 then (48 + d).toUInt8 else (87 + d).toUInt8
def hexL (n : Nat) : List UInt8 := if n = 0 then [] else hexL (n / 16) ++ [hexD (n % 16)]
  termination_by n
  decreasing_by omega
def encB (b : List UInt8) : List UInt8 := if b = [] then [] else hexL b.length ++ [13, 10] ++ b ++ [13, 10]
theorem hexL_zero : hexL 0 = [] := by rw [hexL]; simp
theorem hexL_pos {n : Nat} (h : 0 < n) : hexL n = hexL (n / 16) ++ [hexD (n % 16)] := by rw [hexL, if_neg (by omega)]
theorem hexL_len : ∀ (k n : Nat), n < 16 ^ k → (hexL n).length ≤ k
  | 0, n, h => by have : n = 0 := by simpa using h
                  subst this; rw [hexL_zero]; exact Nat.le_refl _
  | k + 1, n, h => by
    by_cases h0 : n = 0
    · subst h0; rw [hexL_zero]; exact Nat.zero_le _
    · rw [hexL_pos (by omega), List.length_append]
      have := hexL_len k (n / 16) (by rw [Nat.pow_succ] at h; exact Nat.div_lt_of_lt_mul (by omega))
      simp; exact this
theorem hexL_ne {n : Nat} (h : 0 < n) : 0 < (hexL n).length := by rw [hexL_pos h]; simp
theorem hexF_hexD : ∀ d : Nat, d < 16 → hexF ((hexD d).toNat : Int) = ((d : Int), true) := by decide
theorem u64_or (a d : Nat) (ha : a < 72057594037927936) (hd : d < 16) : IntKind.u64.wrap (BitVec.ofInt IntKind.u64.bits (IntKind.u64.wrap ((a : Int) * 2 ^ (min (4 : Int).toNat IntKind.u64.bits))) ||| BitVec.ofInt IntKind.u64.bits (IntKind.u64.wrap (d : Int))).toNat = ((a * 16 + d : Nat) : Int) := by
  have e1 : IntKind.u64.wrap ((a : Int) * 2 ^ (min (4 : Int).toNat IntKind.u64.bits)) = ((a * 16 : Nat) : Int) := by
    rw [show (min (4 : Int).toNat IntKind.u64.bits) = 4 from rfl, Go.Proofs.YtdfgdpjlbcnkfaaDoorAbs.wpu64 (by omega) (by omega)]; omega
  have e2 : IntKind.u64.wrap (d : Int) = (d : Int) := Go.Proofs.YtdfgdpjlbcnkfaaDoorAbs.wpu64 (by omega) (by omega)
  rw [e1, e2]
  have e3 : (BitVec.ofInt IntKind.u64.bits ((a * 16 : Nat) : Int) ||| BitVec.ofInt IntKind.u64.bits (d : Int)).toNat = a * 16 + d := by
    rw [BitVec.ofInt_natCast, BitVec.ofInt_natCast, BitVec.toNat_or, BitVec.toNat_ofNat, BitVec.toNat_ofNat]
    rw [show (2 : Nat) ^ IntKind.u64.bits = 18446744073709551616 from rfl, Nat.mod_eq_of_lt (by omega), Nat.mod_eq_of_lt (by omega)]
    have := Nat.two_pow_add_eq_or_of_lt (i := 4) (b := d) (by omega) a
    rw [show (2 : Nat) ^ 4 = 16 from rfl, Nat.mul_comm 16 a] at this
    exact this.symm
  rw [e3, Go.Proofs.YtdfgdpjlbcnkfaaDoorAbs.wpu64 (by omega) (by omega)]
theorem feed_go {r r1 : PRd} {xs ys out : List UInt8} (h : feedF r xs = (xs.length, out, r1)) : feedF r (xs ++ ys) = (xs.length + (feedF r1 ys).1, out ++ (feedF r1 ys).2.1, (feedF r1 ys).2.2) := by
  rw [feed_append, h, if_neg (Nat.lt_irrefl _)]
theorem feed_cons {r : PRd} {c : UInt8} {l : List UInt8} (he : r.err = none) (hs : r.state ≠ 8) : feedF r (c :: l) = ((feedF (byteF r c) l).1 + 1, outF r c ++ (feedF (byteF r c) l).2.1, (feedF (byteF r c) l).2.2) := by
  rw [feedF, if_neg (by simp [he, hs])]
theorem feed_one {r : PRd} {c : UInt8} (he : r.err = none) (hs : r.state ≠ 8) (h3 : r.state ≠ 3) : feedF r [c] = (1, [], stepF r c) := by
  rw [feed_cons he hs]; simp [feedF, outF, h3, byteF]
def CR.at (most len sum : Int) (t : List Fld) : PRd := ⟨most, len, 0, none, 0, 0, false, 0, [], sum, t⟩
theorem hex_feed (most len sum : Int) (t : List Fld) : ∀ n : Nat, n < 1152921504606846976 → feedF (CR.at most len sum t) (hexL n) = ((hexL n).length, [], ⟨most, len, 0, none, (hexL n).length, n, false, 0, [], sum, t⟩) := by
  intro n
  induction n using Nat.strongRecOn with
  | _ n ih =>
    intro hn
    by_cases h0 : n = 0
    · subst h0; rw [hexL_zero]; rfl
    · have h1 := ih (n / 16) (by omega) (by omega)
      have hl := hexL_len 14 (n / 16) (by rw [show (16 : Nat) ^ 14 = 72057594037927936 from rfl]; omega)
      rw [hexL_pos (by omega), feed_go h1]
      generalize hexL (n / 16) = L at *
      rw [feed_one rfl (by simp) (by simp)]
      have e1 := hexF_hexD (n % 16) (by omega)
      have e2 := u64_or (n / 16) (n % 16) (by omega) (by omega)
      have e3 : (((n / 16 : Nat) : Int)).fdiv (2 ^ (min (60 : Int).toNat IntKind.u64.bits)) = 0 := by
        rw [show (min (60 : Int).toNat IntKind.u64.bits) = 60 from rfl]
        rw [Int.fdiv_eq_ediv_of_nonneg _ (by decide)]
        exact Int.ediv_eq_zero_of_lt (by omega) (by have : (2 : Int) ^ 60 = 1152921504606846976 := rfl
                                                    omega)
      have e4 : IntKind.i64.wrap ((L.length : Int) + 1) = ((L.length + 1 : Nat) : Int) := by rw [Go.Proofs.YtdfgdpjlbcnkfaaDoorAbs.wp64 (by omega) (by omega)]; omega
      have e5 : n / 16 * 16 + n % 16 = n := by omega
      rw [e5] at e2
      have hs : stepF (⟨most, len, 0, none, (L.length : Int), ((n / 16 : Nat) : Int), false, 0, [], sum, t⟩ : PRd) (hexD (n % 16)) = ⟨most, len, 0, none, ((L.length + 1 : Nat) : Int), (n : Int), false, 0, [], sum, t⟩ := by
        have hlt : (L.length : Int) < 16 := by omega
        simp only [stepF, if_true, sizeF, e1, true_and, if_pos hlt, e2, e3, e4, decide_true, Bool.not_true, Bool.or_false]
      rw [hs]
      simp
theorem step_size13 (most len sum dg lf : Int) (t : List Fld) (hd : dg ≠ 0) (h16 : dg ≤ 16) : stepF (⟨most, len, 0, none, dg, lf, false, 0, [], sum, t⟩ : PRd) 13 = ⟨most, len, 2, none, dg, lf, false, 0, [], sum, t⟩ := by
  have e : hexF (((13 : UInt8).toNat : Nat) : Int) = (0, false) := by decide
  have e13 : (((13 : UInt8).toNat : Nat) : Int) = 13 := rfl
  have e' : hexF 13 = (0, false) := by decide
  simp only [stepF, if_true, sizeF, e, e13]
  simp [hd, e']
theorem step_beg (most len sum dg : Int) (n : Nat) (t : List Fld) (h0 : 0 ≤ len) (h1 : len ≤ most) (h2 : most ≤ 1099511627776) : stepF (⟨most, len, 2, none, dg, n, false, 0, [], sum, t⟩ : PRd) 10 =
    if most - len < n then ⟨most, len, 2, some 33, dg, n, false, 0, [], sum, t⟩ else if n = 0 then ⟨most, len, 6, none, dg, n, false, 0, [], sum, t⟩ else ⟨most, len, 3, none, dg, n, false, 0, [], sum, t⟩ := by
  have w : IntKind.u64.wrap (IntKind.i64.wrap (most - len)) = most - len := by rw [Go.Proofs.YtdfgdpjlbcnkfaaDoorAbs.wp64 (by omega) (by omega), Go.Proofs.YtdfgdpjlbcnkfaaDoorAbs.wpu64 (by omega) (by omega)]
  have e10 : (((10 : UInt8).toNat : Nat) : Int) = 10 := rfl
  simp only [stepF, begF, w, e10]
  simp
theorem chunk_feed {most len sum : Int} {t : List Fld} (b rest : List UInt8) (h0 : 0 ≤ len) (h2 : most ≤ 1099511627776) (hb : len + b.length ≤ most) :
    feedF (CR.at most len sum t) (encB b ++ rest) = ((encB b).length + (feedF (CR.at most (len + b.length) sum t) rest).1, b ++ (feedF (CR.at most (len + b.length) sum t) rest).2.1, (feedF (CR.at most (len + b.length) sum t) rest).2.2) := by
  by_cases hne : b = []
  · subst hne; simp [encB]
  have hl : 0 < b.length := List.length_pos_iff.2 hne
  have a1 := hex_feed most len sum t b.length (by omega)
  have d1 := hexL_ne hl
  have d2 := hexL_len 15 b.length (by rw [show (16 : Nat) ^ 15 = 1152921504606846976 from rfl]; omega)
  have a2 : feedF (⟨most, len, 0, none, (hexL b.length).length, b.length, false, 0, [], sum, t⟩ : PRd) [13, 10] = ([13, 10].length, [], ⟨most, len, 3, none, (hexL b.length).length, b.length, false, 0, [], sum, t⟩) := by
    rw [show ([13, 10] : List UInt8) = [13] ++ [10] from rfl, feed_go (r1 := ⟨most, len, 2, none, (hexL b.length).length, b.length, false, 0, [], sum, t⟩) (out := []) ?_]
    · rw [feed_one rfl (by simp) (by simp), step_beg _ _ _ _ _ _ h0 (by omega) h2, if_neg (by omega), if_neg (by omega)]; rfl
    · rw [feed_one rfl (by simp) (by simp), step_size13 _ _ _ _ _ _ (by omega) (by omega)]; rfl
  have a3 : feedF (⟨most, len, 3, none, (hexL b.length).length, b.length, false, 0, [], sum, t⟩ : PRd) b = (b.length, b, ⟨most, len + b.length, 4, none, (hexL b.length).length, 0, false, 0, [], sum, t⟩) := by
    have := feed_data (⟨most, len, 3, none, (hexL b.length).length, b.length, false, 0, [], sum, t⟩ : PRd) rfl rfl b [] hne (Int.le_refl _)
    rw [List.append_nil] at this
    rw [this]
    simp [dataF, feedF]
  have a4 : feedF (⟨most, len + b.length, 4, none, (hexL b.length).length, 0, false, 0, [], sum, t⟩ : PRd) [13, 10] = ([13, 10].length, [], CR.at most (len + b.length) sum t) := by
    rw [show ([13, 10] : List UInt8) = [13] ++ [10] from rfl, feed_go (r1 := ⟨most, len + b.length, 5, none, (hexL b.length).length, 0, false, 0, [], sum, t⟩) (out := []) ?_]
    · rw [feed_one rfl (by simp) (by simp)]; rfl
    · rw [feed_one rfl (by simp) (by simp)]; rfl
  have e : encB b ++ rest = hexL b.length ++ ([13, 10] ++ (b ++ ([13, 10] ++ rest))) := by simp [encB, hne]
  rw [e, feed_go a1, feed_go a2, feed_go a3, feed_go a4]
  simp only [encB, if_neg hne, List.length_append, List.nil_append, List.append_assoc]
  refine Prod.ext ?_ rfl
  simp only [List.length_append, List.length_cons, List.length_nil]
  omega
theorem chunk_over {most len sum : Int} {t : List Fld} (b rest : List UInt8) (h0 : 0 ≤ len) (h1 : len ≤ most) (h2 : most ≤ 1099511627776) (hb : most < len + b.length) (hbn : b.length < 1152921504606846976) :
    (feedF (CR.at most len sum t) (encB b ++ rest)).2.1 = [] ∧ (feedF (CR.at most len sum t) (encB b ++ rest)).2.2.err = some 33 ∧ (feedF (CR.at most len sum t) (encB b ++ rest)).2.2.state = 2 := by
  have hl : 0 < b.length := by omega
  have hne : b ≠ [] := List.length_pos_iff.1 hl
  have a1 := hex_feed most len sum t b.length (by omega)
  have d1 := hexL_ne hl
  have d2 := hexL_len 15 b.length (by rw [show (16 : Nat) ^ 15 = 1152921504606846976 from rfl]; omega)
  have a2 : feedF (⟨most, len, 0, none, (hexL b.length).length, b.length, false, 0, [], sum, t⟩ : PRd) [13, 10] = ([13, 10].length, [], ⟨most, len, 2, some 33, (hexL b.length).length, b.length, false, 0, [], sum, t⟩) := by
    rw [show ([13, 10] : List UInt8) = [13] ++ [10] from rfl, feed_go (r1 := ⟨most, len, 2, none, (hexL b.length).length, b.length, false, 0, [], sum, t⟩) (out := []) ?_]
    · rw [feed_one rfl (by simp) (by simp), step_beg _ _ _ _ _ _ h0 (by omega) h2, if_pos (by omega)]; rfl
    · rw [feed_one rfl (by simp) (by simp), step_size13 _ _ _ _ _ _ (by omega) (by omega)]; rfl
  have e : encB b ++ rest = hexL b.length ++ ([13, 10] ++ (b ++ ([13, 10] ++ rest))) := by simp [encB, hne]
  rw [e, feed_go a1, feed_go a2, feed_stop _ _ (.inr (.inl (by simp)))]
  exact ⟨rfl, rfl, rfl⟩
theorem last_feed {most len sum : Int} {t : List Fld} (rest : List UInt8) (h0 : 0 ≤ len) (h1 : len ≤ most) (h2 : most ≤ 1099511627776) (hs : sum ≤ 8192) :
    feedF (CR.at most len sum t) ([48, 13, 10, 13, 10] ++ rest) = (5, [], ⟨most, len, 8, none, 1, 0, false, 0, [], sum, t⟩) := by
  have a1 : feedF (CR.at most len sum t) [48] = ([48].length, [], ⟨most, len, 0, none, 1, ((0 : Nat) : Int), false, 0, [], sum, t⟩) := by
    have e1 := hexF_hexD 0 (by decide)
    have e2 := u64_or 0 0 (by decide) (by decide)
    have e4 : IntKind.i64.wrap ((0 : Int) + 1) = 1 := rfl
    have e5 : hexD 0 = 48 := by decide
    have e6 : decide ((0 : Int).fdiv (2 ^ (min (60 : Int).toNat IntKind.u64.bits)) = 0) = true := by rw [Int.zero_fdiv]; rfl
    rw [e5] at e1
    simp only [Int.natCast_zero, Nat.zero_mul, Nat.add_zero] at e1 e2
    have hs : stepF (CR.at most len sum t) 48 = ⟨most, len, 0, none, 1, ((0 : Nat) : Int), false, 0, [], sum, t⟩ := by
      simp only [stepF, CR.at, if_true, sizeF, e1, true_and, e2, e4, e6, Bool.not_true, Bool.or_false, show ((0 : Int) < 16) = True from eq_true (by decide), Int.natCast_zero]
      rfl
    rw [feed_one rfl (by simp [CR.at]) (by simp [CR.at]), hs]; rfl
  have a2 : feedF (⟨most, len, 0, none, 1, ((0 : Nat) : Int), false, 0, [], sum, t⟩ : PRd) [13] = ([13].length, [], ⟨most, len, 2, none, 1, ((0 : Nat) : Int), false, 0, [], sum, t⟩) := by
    rw [feed_one rfl (by simp) (by simp), step_size13 _ _ _ _ _ _ (by omega) (by omega)]; rfl
  have a3 : feedF (⟨most, len, 2, none, 1, ((0 : Nat) : Int), false, 0, [], sum, t⟩ : PRd) [10] = ([10].length, [], ⟨most, len, 6, none, 1, 0, false, 0, [], sum, t⟩) := by
    rw [feed_one rfl (by simp) (by simp), step_beg _ _ _ _ _ _ h0 h1 h2, if_neg (by omega), if_pos rfl]; rfl
  have a4 : feedF (⟨most, len, 6, none, 1, 0, false, 0, [], sum, t⟩ : PRd) [13] = ([13].length, [], ⟨most, len, 7, none, 1, 0, false, 0, [], sum, t⟩) := by
    rw [feed_one rfl (by simp) (by simp)]; rfl
  have a5 : feedF (⟨most, len, 7, none, 1, 0, false, 0, [], sum, t⟩ : PRd) [10] = ([10].length, [], ⟨most, len, 8, none, 1, 0, false, 0, [], sum, t⟩) := by
    rw [feed_one rfl (by simp) (by simp)]
    have e10 : (((10 : UInt8).toNat : Nat) : Int) = 10 := rfl
    simp only [stepF, trailerF, endsF, e10]
    simp [show ¬ 8192 < sum by omega]
  rw [show ([48, 13, 10, 13, 10] : List UInt8) ++ rest = [48] ++ ([13] ++ ([10] ++ ([13] ++ ([10] ++ rest)))) from rfl, feed_go a1, feed_go a2, feed_go a3, feed_go a4, feed_go a5, feed_stop _ _ (.inr (.inr rfl))]
  rfl
end Go.Proofs.YtdfgdpjlbcnkfaaDoor.Q
namespace Go.Proofs.YtdfgdpjlbcnkfaaDoor.Q
open Go Go.Proofs.YtdfgdpjlbcnkfaaDoorAbs Go.Proofs
set_option linter.unusedVariables false
set_option linter.unusedSimpArgs false
set_option maxRecDepth 100000
set_option maxHeartbeats 4000000
attribute [local irreducible] Go.Proofs.YtdfgdpjlbcnkfaaDoorAbs.O Go.Proofs.YtdfgdpjlbcnkfaaDoorAbs.W Go.Proofs.YtdfgdpjlbcnkfaaDoorAbs.C Go.Proofs.YtdfgdpjlbcnkfaaDoorAbs.OK Go.Proofs.YtdfgdpjlbcnkfaaDoorAbs.OKF Go.Proofs.YtdfgdpjlbcnkfaaDoorAbs.OKT Go.Proofs.YtdfgdpjlbcnkfaaDoorAbs.then_ Go.Proofs.YtdfgdpjlbcnkfaaDoorAbs.inBlock_ Go.Proofs.YtdfgdpjlbcnkfaaDoorAbs.bodyQ Go.Proofs.YtdfgdpjlbcnkfaaDoorAbs.Cont
section
variable {I : Prims} {S : St} {Q : Value → St → Prop}
theorem hex_ext : ∀ d : Nat, d < 16 → (⟨#[48, 49, 50, 51, 52, 53, 54, 55, 56, 57, 97, 98, 99, 100, 101, 102]⟩ : ByteArray).extract d (d + 1) = ⟨[hexD d].toArray⟩ := by decide
theorem str_add (x y : Operand) (a b : List UInt8) (h : a.length + b.length ≤ 4611686018427387904) : binX Tryd.prog .add 9 x y (.string ⟨a.toArray⟩) (.string ⟨b.toArray⟩) = some (.string ⟨(a ++ b).toArray⟩) := by
  rw [binX_sadd _ _ _ _ _ (by simp [ByteArray.size]; omega), ba_append]
theorem cv_bytes (S : St) (l : List UInt8) : aconvert Tryd.prog S 9 22 (.string ⟨l.toArray⟩) = some (.slice (some ⟨S.next, 0, some l.length⟩) l.length (UNK + 1), S.push ⟨u8v l, 5, true, 0⟩) := by
  have hu : isU8 Tryd.prog 5 = true := by kernel_rfl
  simp [aconvert, u9, u22, hu, sz5, byteCells, u8v, ByteArray.size]
theorem own_push1 (S : St) (l : List UInt8) (h : 0 < l.length) : Own 5 1 (S.push ⟨u8v l, 5, true, 0⟩) (.slice (some ⟨S.next, 0, some l.length⟩) l.length (UNK + 1)) l.length (u8v l) := by
  have hl : (u8v l).length = l.length := by simp [u8v]
  exact ⟨by simp [u8v], by simp [u8v, oneC], .inr ⟨S.next, 0, by rw [hl], St.get_push_self _ _, Nat.zero_le _, Nat.lt_succ_self _, h⟩⟩
theorem own_cat {S : St} {v : Value} {a b : List UInt8} (h : Own 5 1 S v (a.length + b.length) (u8v a ++ u8v b)) : Own 5 1 S v (a ++ b).length (u8v (a ++ b)) := by
  rw [List.length_append, show u8v (a ++ b) = u8v a ++ u8v b by simp [u8v]]
  exact h
theorem REnc_C (h : HB I) {v : Value} {xs : List UInt8} (hx : Sl S v xs) (hn : xs.length ≤ 1099511627776)
    (hQ : ∀ v' S', Own 5 1 S' v' (encB xs).length (u8v (encB xs)) → Kept S S' none → (∀ i, blkOf v' = some i → S.next ≤ i) → Q v' S') : C Tryd.prog I 10 #[v] S Q := by
  refine C_body (rs := [.tmp 2]) (h.no 10 (by decide)) Tryd.func10 rfl rfl ok10 ?_
  obtain ⟨u22, sz5, u5, u9, u3, u29, u34, u33, sz3, u4, u41, sz66, u46, sz28, u47, u52, sz22, sz62, sz24, sz59, u59, sz60, u60, sz41, sz58, u58, sz73, sz34, sz4, sz9, sz83, u88, sz86, u112, sz118, u118, u2, sz126, u126, u21, sz130, u130, u139, u140, sz141, u141, u145, u148, sz147, u154, u155⟩ := UF
  have hx0 := hx
  obtain ⟨a, c, rfl, hc0, hc1⟩ := hx
  by_cases hne : xs = []
  · subst hne
    repeat' (first
    | (with_reducible first | refine W_pushC fun K hK => ?_ | refine W_blockI ?_ | refine W_scopeI ?_ | refine W_labelI ?_ | refine W_skipI ?_ | refine W_retI ?_ | refine W_exitI ?_ | refine then_normalI ?_ | refine then_retI ?_ | refine then_exitI ?_ | refine inBlock_normalI ?_ | refine inBlock_retI ?_ | refine inBlock_exitI ?_ | refine inBlock_exitN (by decide) ?_)
    | ((with_reducible first | refine bodyQ_normal0 ?_ | refine bodyQ_normal1 ?_ | refine bodyQ_normal2 ?_ | refine bodyQ_normal3 ?_ | refine bodyQ_normal4 ?_ | refine bodyQ_ret0 ?_ | refine bodyQ_ret1 ?_ | refine bodyQ_ret2 ?_ | refine bodyQ_ret3 ?_ | refine bodyQ_ret4 ?_); (try simp only [EVB, Nat.reduceEqDiff, reduceIte]))
    | (with_reducible refine Cont.use (by assumption) ?_)
    | (with_reducible first | refine hcA ?_ | refine hcB ?_)
    | ((with_reducible first | refine W_condG fun cA cB hcA hcB => ?_ | refine W_regionI ?_ | show O _ _ _ _ _ _ _ _ | show OK _ _ _ _ _ _ _ _ _ | show OKF _ _ _ _ _ _ _ _ _ _ | show OKT _ _ _ _ _ _ _ _ _ _ _ _ | show _ ∧ _ | show CG _ _ _ | show CB _ _ _); simp (disch := first | ((with_reducible show isStop _ = false); rfl) | ((with_reducible show isP _ = true); rfl) | ((with_reducible show (isStop _ || isP _) = false); rfl) | assumption | (simp only [GSB, Nat.reduceEqDiff, reduceIte]; done) | omega | (with_reducible decide) | (simp only [DSB, Go.Proofs.YtdfgdpjlbcnkfaaDoorAbs.oneC, Nat.reduceAdd, Nat.reduceLeDiff] <;> omega)) only [↓DN, ↓reduceIte, UP, CGB, Int.reduceEq, Int.reduceLT, Int.reduceLE, Nat.reduceEqDiff, Nat.reduceAdd, Nat.reduceMul, Nat.reduceSub, Int.reduceToNat, Nat.reduceLeDiff, PF, isStop, isP, goInt, beq_self_eq_true, decide_true, decide_false, Int.toNat_natCast, Int.natCast_zero, nn_eq, nn_ne])
    | ((with_reducible refine CB_intro (fun ht => hcA ?_) (fun ht => hcB ?_)) <;> (first | (simp only [Bool.true_eq_false, Bool.false_eq_true] at ht; done) | ((try simp only [Bool.not_eq_true', Bool.not_eq_false'] at ht); (try simp only [ht]); (try simp only [HTN] at ht); (try (exfalso; omega)))))
    | ((with_reducible refine W_regionI ?_); simp only [List.append_eq, List.cons_append, List.nil_append])
    | (with_reducible refine O_splitG fun cA cB hcA hcB => ?_)
    | (exact hQ _ _ (Own.nil _ _ _) ⟨Nat.le_refl _, fun _ _ _ => rfl⟩ (fun _ q => by cases q)))
  have hl := List.length_pos_iff.2 hne
  have d0 : decide ((xs.length : Int) = 0) = false := decide_eq_false (by omega)
  have hL := hexL_len 15 xs.length (by rw [show (16 : Nat) ^ 15 = 1152921504606846976 from rfl]; omega)
  repeat' (first
    | (with_reducible first | refine W_pushC fun K hK => ?_ | refine W_blockI ?_ | refine W_scopeI ?_ | refine W_labelI ?_ | refine W_skipI ?_ | refine W_retI ?_ | refine W_exitI ?_ | refine then_normalI ?_ | refine then_retI ?_ | refine then_exitI ?_ | refine inBlock_normalI ?_ | refine inBlock_retI ?_ | refine inBlock_exitI ?_ | refine inBlock_exitN (by decide) ?_)
    | ((with_reducible first | refine bodyQ_normal0 ?_ | refine bodyQ_normal1 ?_ | refine bodyQ_normal2 ?_ | refine bodyQ_normal3 ?_ | refine bodyQ_normal4 ?_ | refine bodyQ_ret0 ?_ | refine bodyQ_ret1 ?_ | refine bodyQ_ret2 ?_ | refine bodyQ_ret3 ?_ | refine bodyQ_ret4 ?_); (try simp only [EVB, Nat.reduceEqDiff, reduceIte]))
    | (with_reducible refine Cont.use (by assumption) ?_)
    | (with_reducible first | refine hcA ?_ | refine hcB ?_)
    | ((with_reducible first | refine W_condG fun cA cB hcA hcB => ?_ | refine W_regionI ?_ | show O _ _ _ _ _ _ _ _ | show OK _ _ _ _ _ _ _ _ _ | show OKF _ _ _ _ _ _ _ _ _ _ | show OKT _ _ _ _ _ _ _ _ _ _ _ _ | show _ ∧ _ | show CG _ _ _ | show CB _ _ _); simp (disch := first | ((with_reducible show isStop _ = false); rfl) | ((with_reducible show isP _ = true); rfl) | ((with_reducible show (isStop _ || isP _) = false); rfl) | assumption | (simp only [GSB, Nat.reduceEqDiff, reduceIte]; done) | omega | (with_reducible decide) | (simp only [DSB, Go.Proofs.YtdfgdpjlbcnkfaaDoorAbs.oneC, Nat.reduceAdd, Nat.reduceLeDiff] <;> omega)) only [↓DN, ↓reduceIte, UP, CGB, Int.reduceEq, Int.reduceLT, Int.reduceLE, Nat.reduceEqDiff, Nat.reduceAdd, Nat.reduceMul, Nat.reduceSub, Int.reduceToNat, Nat.reduceLeDiff, PF, isStop, isP, goInt, beq_self_eq_true, decide_true, decide_false, Int.toNat_natCast, Int.natCast_zero, nn_eq, nn_ne, d0])
    | ((with_reducible refine CB_intro (fun ht => hcA ?_) (fun ht => hcB ?_)) <;> (first | (simp only [Bool.true_eq_false, Bool.false_eq_true] at ht; done) | ((try simp only [Bool.not_eq_true', Bool.not_eq_false'] at ht); (try simp only [ht]); (try simp only [HTN] at ht); (try (exfalso; omega)))))
    | ((with_reducible refine W_regionI ?_); simp only [List.append_eq, List.cons_append, List.nil_append])
    | (with_reducible refine O_splitG fun cA cB hcA hcB => ?_))
  refine W_loop (fun n e S1 => ∃ s : List UInt8, e.get 0 = .slice a xs.length c ∧ e.get 4 = .int .i64 n ∧ e.get 3 = .string ⟨s.toArray⟩ ∧ hexL xs.length = hexL n ++ s ∧ n ≤ xs.length ∧ S1 = S) xs.length ⟨[], by simp only [EVB, Nat.reduceEqDiff, reduceIte], by simp only [EVB, Nat.reduceEqDiff, reduceIte], by simp only [EVB, Nat.reduceEqDiff, reduceIte], by simp, Nat.le_refl _, rfl⟩ ?_
  rintro n e S1 ⟨s, e0, e4, e3, hs, hle, rfl⟩
  by_cases h0 : n = 0
  · subst h0
    rw [hexL_zero, List.nil_append] at hs
    have f1 := str_add (.tmp 23) (.const (.string ⟨#[13, 10]⟩)) s [13, 10] (by rw [← hs]; simp; omega)
    have hcv := cv_bytes S1 (s ++ [13, 10])
    have hsl : (s ++ [13, 10]).length ≤ 17 := by rw [← hs]; simp; omega
    have hO1 := own_push1 S1 (s ++ [13, 10]) (by simp)
    repeat' (first
    | (with_reducible first | refine W_pushC fun K hK => ?_ | refine W_blockI ?_ | refine W_scopeI ?_ | refine W_labelI ?_ | refine W_skipI ?_ | refine W_retI ?_ | refine W_exitI ?_ | refine then_normalI ?_ | refine then_retI ?_ | refine then_exitI ?_ | refine inBlock_normalI ?_ | refine inBlock_retI ?_ | refine inBlock_exitI ?_ | refine inBlock_exitN (by decide) ?_)
    | ((with_reducible first | refine bodyQ_normal0 ?_ | refine bodyQ_normal1 ?_ | refine bodyQ_normal2 ?_ | refine bodyQ_normal3 ?_ | refine bodyQ_normal4 ?_ | refine bodyQ_ret0 ?_ | refine bodyQ_ret1 ?_ | refine bodyQ_ret2 ?_ | refine bodyQ_ret3 ?_ | refine bodyQ_ret4 ?_); (try simp only [EVB, Nat.reduceEqDiff, reduceIte]))
    | (with_reducible refine Cont.use (by assumption) ?_)
    | (with_reducible first | refine hcA ?_ | refine hcB ?_)
    | ((with_reducible first | refine W_condG fun cA cB hcA hcB => ?_ | refine W_regionI ?_ | show O _ _ _ _ _ _ _ _ | show OK _ _ _ _ _ _ _ _ _ | show OKF _ _ _ _ _ _ _ _ _ _ | show OKT _ _ _ _ _ _ _ _ _ _ _ _ | show _ ∧ _ | show CG _ _ _ | show CB _ _ _); simp (disch := first | ((with_reducible show isStop _ = false); rfl) | ((with_reducible show isP _ = true); rfl) | ((with_reducible show (isStop _ || isP _) = false); rfl) | assumption | (simp only [GSB, Nat.reduceEqDiff, reduceIte]; done) | omega | (with_reducible decide) | (simp only [DSB, Go.Proofs.YtdfgdpjlbcnkfaaDoorAbs.oneC, Nat.reduceAdd, Nat.reduceLeDiff] <;> omega)) only [↓DN, ↓reduceIte, UP, CGB, Int.reduceEq, Int.reduceLT, Int.reduceLE, Nat.reduceEqDiff, Nat.reduceAdd, Nat.reduceMul, Nat.reduceSub, Int.reduceToNat, Nat.reduceLeDiff, PF, isStop, isP, goInt, beq_self_eq_true, decide_true, decide_false, Int.toNat_natCast, Int.natCast_zero, nn_eq, nn_ne, e0, e4, e3, f1, hcv])
    | ((with_reducible refine CB_intro (fun ht => hcA ?_) (fun ht => hcB ?_)) <;> (first | (simp only [Bool.true_eq_false, Bool.false_eq_true] at ht; done) | ((try simp only [Bool.not_eq_true', Bool.not_eq_false'] at ht); (try simp only [ht]); (try simp only [HTN] at ht); (try (exfalso; omega)))))
    | ((with_reducible refine W_regionI ?_); simp only [List.append_eq, List.cons_append, List.nil_append])
    | (with_reducible refine O_splitG fun cA cB hcA hcB => ?_))
    have hx1 := sl_src (sl_kept hx0 (Kept.push ⟨u8v (s ++ [13, 10]), 5, true, 0⟩ none) (by simp))
    refine O_append (P := Tryd.prog) (elem := 5) (size := 1) (bytes := 1) (n := (s ++ [13, 10]).length) (m := xs.length) (xs := u8v (s ++ [13, 10])) (ys := u8v xs) u22 sz5 by5 ze5 ⟨by decide, by decide, rfl⟩ (by simp only [EVB, Nat.reduceEqDiff, reduceIte]; exact hO1) (by simp only [EVB, Nat.reduceEqDiff, reduceIte, e0]; exact hx1) ⟨by simp [u8v], u8v_one _⟩ (by omega) fun v2 S2 hO2 hK2 hB2 => ?_
    simp only [EVB, Nat.reduceEqDiff, reduceIte] at hK2 hB2
    have hO2' : Own 5 1 S2 v2 ((s ++ [13, 10]) ++ xs).length (u8v ((s ++ [13, 10]) ++ xs)) := own_cat hO2
    have k2 : Kept S1 S2 none := ⟨by have := hK2.1; simp only [St.next_push] at this; omega, fun i hi _ => (hK2.2 i (Nat.lt_succ_of_lt hi) (by simp [blkOf]; omega)).trans (S1.get_push_lt _ hi)⟩
    have hb2 : ∀ i, blkOf v2 = some i → S1.next ≤ i := fun i e => by
      rcases hB2 with q | ⟨i', q1, q2⟩
      · rw [q] at e; simp [blkOf] at e; omega
      · rw [q2] at e; cases e; simp only [St.next_push] at q1; omega
    repeat' (first
    | (with_reducible first | refine W_pushC fun K hK => ?_ | refine W_blockI ?_ | refine W_scopeI ?_ | refine W_labelI ?_ | refine W_skipI ?_ | refine W_retI ?_ | refine W_exitI ?_ | refine then_normalI ?_ | refine then_retI ?_ | refine then_exitI ?_ | refine inBlock_normalI ?_ | refine inBlock_retI ?_ | refine inBlock_exitI ?_ | refine inBlock_exitN (by decide) ?_)
    | ((with_reducible first | refine bodyQ_normal0 ?_ | refine bodyQ_normal1 ?_ | refine bodyQ_normal2 ?_ | refine bodyQ_normal3 ?_ | refine bodyQ_normal4 ?_ | refine bodyQ_ret0 ?_ | refine bodyQ_ret1 ?_ | refine bodyQ_ret2 ?_ | refine bodyQ_ret3 ?_ | refine bodyQ_ret4 ?_); (try simp only [EVB, Nat.reduceEqDiff, reduceIte]))
    | (with_reducible refine Cont.use (by assumption) ?_)
    | (with_reducible first | refine hcA ?_ | refine hcB ?_)
    | ((with_reducible first | refine W_condG fun cA cB hcA hcB => ?_ | refine W_regionI ?_ | show O _ _ _ _ _ _ _ _ | show OK _ _ _ _ _ _ _ _ _ | show OKF _ _ _ _ _ _ _ _ _ _ | show OKT _ _ _ _ _ _ _ _ _ _ _ _ | show _ ∧ _ | show CG _ _ _ | show CB _ _ _); simp (disch := first | ((with_reducible show isStop _ = false); rfl) | ((with_reducible show isP _ = true); rfl) | ((with_reducible show (isStop _ || isP _) = false); rfl) | assumption | (simp only [GSB, Nat.reduceEqDiff, reduceIte]; done) | omega | (with_reducible decide) | (simp only [DSB, Go.Proofs.YtdfgdpjlbcnkfaaDoorAbs.oneC, Nat.reduceAdd, Nat.reduceLeDiff] <;> omega)) only [↓DN, ↓reduceIte, UP, CGB, Int.reduceEq, Int.reduceLT, Int.reduceLE, Nat.reduceEqDiff, Nat.reduceAdd, Nat.reduceMul, Nat.reduceSub, Int.reduceToNat, Nat.reduceLeDiff, PF, isStop, isP, goInt, beq_self_eq_true, decide_true, decide_false, Int.toNat_natCast, Int.natCast_zero, nn_eq, nn_ne])
    | ((with_reducible refine CB_intro (fun ht => hcA ?_) (fun ht => hcB ?_)) <;> (first | (simp only [Bool.true_eq_false, Bool.false_eq_true] at ht; done) | ((try simp only [Bool.not_eq_true', Bool.not_eq_false'] at ht); (try simp only [ht]); (try simp only [HTN] at ht); (try (exfalso; omega)))))
    | ((with_reducible refine W_regionI ?_); simp only [List.append_eq, List.cons_append, List.nil_append])
    | (with_reducible refine O_splitG fun cA cB hcA hcB => ?_))
    refine O_append (P := Tryd.prog) (elem := 5) (size := 1) (bytes := 1) (n := ((s ++ [13, 10]) ++ xs).length) (m := 2) (xs := u8v ((s ++ [13, 10]) ++ xs)) (ys := u8v [13, 10]) u22 sz5 by5 ze5 ⟨by decide, by decide, rfl⟩ (by simp only [EVB, Nat.reduceEqDiff, reduceIte]; exact hO2') (by simp only [EVB, Nat.reduceEqDiff, reduceIte]; kernel_rfl) ⟨by simp [u8v], u8v_one _⟩ (by simp only [List.length_append, List.length_cons, List.length_nil] at hsl ⊢; omega) fun v3 S3 hO3 hK3 hB3 => ?_
    simp only [EVB, Nat.reduceEqDiff, reduceIte] at hK3 hB3
    have he : encB xs = (s ++ [13, 10]) ++ xs ++ [13, 10] := by rw [encB, if_neg hne, hs]
    have hO3' : Own 5 1 S3 v3 (encB xs).length (u8v (encB xs)) := by rw [he]; exact own_cat hO3
    have k3 : Kept S1 S3 none := ⟨by have := hK3.1; have := k2.1; omega, fun i hi _ => (hK3.2 i (Nat.lt_of_lt_of_le hi k2.1) (fun e => by have := hb2 i e; omega)).trans (k2.2 i hi (by simp))⟩
    have hb3 : ∀ i, blkOf v3 = some i → S1.next ≤ i := fun i e => by
      rcases hB3 with q | ⟨i', q1, q2⟩
      · rw [q] at e; exact hb2 i e
      · rw [q2] at e; cases e; have := k2.1; omega
    repeat' (first
    | (with_reducible first | refine W_pushC fun K hK => ?_ | refine W_blockI ?_ | refine W_scopeI ?_ | refine W_labelI ?_ | refine W_skipI ?_ | refine W_retI ?_ | refine W_exitI ?_ | refine then_normalI ?_ | refine then_retI ?_ | refine then_exitI ?_ | refine inBlock_normalI ?_ | refine inBlock_retI ?_ | refine inBlock_exitI ?_ | refine inBlock_exitN (by decide) ?_)
    | ((with_reducible first | refine bodyQ_normal0 ?_ | refine bodyQ_normal1 ?_ | refine bodyQ_normal2 ?_ | refine bodyQ_normal3 ?_ | refine bodyQ_normal4 ?_ | refine bodyQ_ret0 ?_ | refine bodyQ_ret1 ?_ | refine bodyQ_ret2 ?_ | refine bodyQ_ret3 ?_ | refine bodyQ_ret4 ?_); (try simp only [EVB, Nat.reduceEqDiff, reduceIte]))
    | (with_reducible refine Cont.use (by assumption) ?_)
    | (with_reducible first | refine hcA ?_ | refine hcB ?_)
    | ((with_reducible first | refine W_condG fun cA cB hcA hcB => ?_ | refine W_regionI ?_ | show O _ _ _ _ _ _ _ _ | show OK _ _ _ _ _ _ _ _ _ | show OKF _ _ _ _ _ _ _ _ _ _ | show OKT _ _ _ _ _ _ _ _ _ _ _ _ | show _ ∧ _ | show CG _ _ _ | show CB _ _ _); simp (disch := first | ((with_reducible show isStop _ = false); rfl) | ((with_reducible show isP _ = true); rfl) | ((with_reducible show (isStop _ || isP _) = false); rfl) | assumption | (simp only [GSB, Nat.reduceEqDiff, reduceIte]; done) | omega | (with_reducible decide) | (simp only [DSB, Go.Proofs.YtdfgdpjlbcnkfaaDoorAbs.oneC, Nat.reduceAdd, Nat.reduceLeDiff] <;> omega)) only [↓DN, ↓reduceIte, UP, CGB, Int.reduceEq, Int.reduceLT, Int.reduceLE, Nat.reduceEqDiff, Nat.reduceAdd, Nat.reduceMul, Nat.reduceSub, Int.reduceToNat, Nat.reduceLeDiff, PF, isStop, isP, goInt, beq_self_eq_true, decide_true, decide_false, Int.toNat_natCast, Int.natCast_zero, nn_eq, nn_ne])
    | ((with_reducible refine CB_intro (fun ht => hcA ?_) (fun ht => hcB ?_)) <;> (first | (simp only [Bool.true_eq_false, Bool.false_eq_true] at ht; done) | ((try simp only [Bool.not_eq_true', Bool.not_eq_false'] at ht); (try simp only [ht]); (try simp only [HTN] at ht); (try (exfalso; omega)))))
    | ((with_reducible refine W_regionI ?_); simp only [List.append_eq, List.cons_append, List.nil_append])
    | (with_reducible refine O_splitG fun cA cB hcA hcB => ?_)
    | (exact hQ _ _ hO3' k3 hb3))
  have dp : decide ((0 : Int) < (n : Int)) = true := decide_eq_true (by omega)
  have w1 : (n : Int).tmod 16 = ((n % 16 : Nat) : Int) := by rw [Int.tmod_eq_emod_of_nonneg (by omega)]; omega
  have w2 : IntKind.i64.wrap (((n % 16 : Nat) : Int) + 1) = ((n % 16 + 1 : Nat) : Int) := by rw [Go.Proofs.YtdfgdpjlbcnkfaaDoorAbs.wp64 (by omega) (by omega)]; omega
  have w3 : IntKind.i64.wrap ((n : Int).tdiv 16) = ((n / 16 : Nat) : Int) := by rw [Int.tdiv_eq_ediv_of_nonneg (by omega), Go.Proofs.YtdfgdpjlbcnkfaaDoorAbs.wp64 (by omega) (by omega)]; omega
  have w5 : IntKind.i64.wrap ((n / 16 : Nat) : Int) = ((n / 16 : Nat) : Int) := Go.Proofs.YtdfgdpjlbcnkfaaDoorAbs.wp64 (by omega) (by omega)
  have w4 : (n : Int).tdiv 16 = ((n / 16 : Nat) : Int) := by rw [Int.tdiv_eq_ediv_of_nonneg (by omega)]; omega
  have hx1 : ssX Tryd.prog 9 (.string ⟨#[48, 49, 50, 51, 52, 53, 54, 55, 56, 57, 97, 98, 99, 100, 101, 102]⟩) (some (.int .i64 ((n % 16 : Nat) : Int))) (some (.int .i64 ((n % 16 + 1 : Nat) : Int))) none = some (.string ⟨[hexD (n % 16)].toArray⟩) := by
    have h16 : (⟨#[48, 49, 50, 51, 52, 53, 54, 55, 56, 57, 97, 98, 99, 100, 101, 102]⟩ : ByteArray).size = 16 := rfl
    rw [ssX_lh _ _ _ _ _ _ u9 (by omega) (by omega) (by omega), Int.toNat_natCast, Int.toNat_natCast, hex_ext _ (by omega)]
  have hlen : s.length ≤ 15 := by rw [hs] at hL; simp at hL; omega
  have hadd : ∀ x y, binX Tryd.prog .add 9 x y (.string ⟨[hexD (n % 16)].toArray⟩) (.string ⟨s.toArray⟩) = some (.string ⟨([hexD (n % 16)] ++ s).toArray⟩) := fun x y => str_add x y _ _ (by simp; omega)
  repeat' (first
    | (with_reducible first | refine W_pushC fun K hK => ?_ | refine W_blockI ?_ | refine W_scopeI ?_ | refine W_labelI ?_ | refine W_skipI ?_ | refine W_retI ?_ | refine W_exitI ?_ | refine then_normalI ?_ | refine then_retI ?_ | refine then_exitI ?_ | refine inBlock_normalI ?_ | refine inBlock_retI ?_ | refine inBlock_exitI ?_ | refine inBlock_exitN (by decide) ?_)
    | ((with_reducible first | refine bodyQ_normal0 ?_ | refine bodyQ_normal1 ?_ | refine bodyQ_normal2 ?_ | refine bodyQ_normal3 ?_ | refine bodyQ_normal4 ?_ | refine bodyQ_ret0 ?_ | refine bodyQ_ret1 ?_ | refine bodyQ_ret2 ?_ | refine bodyQ_ret3 ?_ | refine bodyQ_ret4 ?_); (try simp only [EVB, Nat.reduceEqDiff, reduceIte]))
    | (with_reducible refine Cont.use (by assumption) ?_)
    | (with_reducible first | refine hcA ?_ | refine hcB ?_)
    | ((with_reducible first | refine W_condG fun cA cB hcA hcB => ?_ | refine W_regionI ?_ | show O _ _ _ _ _ _ _ _ | show OK _ _ _ _ _ _ _ _ _ | show OKF _ _ _ _ _ _ _ _ _ _ | show OKT _ _ _ _ _ _ _ _ _ _ _ _ | show _ ∧ _ | show CG _ _ _ | show CB _ _ _); simp (disch := first | ((with_reducible show isStop _ = false); rfl) | ((with_reducible show isP _ = true); rfl) | ((with_reducible show (isStop _ || isP _) = false); rfl) | assumption | (simp only [GSB, Nat.reduceEqDiff, reduceIte]; done) | omega | (with_reducible decide) | (simp only [DSB, Go.Proofs.YtdfgdpjlbcnkfaaDoorAbs.oneC, Nat.reduceAdd, Nat.reduceLeDiff] <;> omega)) only [↓DN, ↓reduceIte, UP, CGB, Int.reduceEq, Int.reduceLT, Int.reduceLE, Nat.reduceEqDiff, Nat.reduceAdd, Nat.reduceMul, Nat.reduceSub, Int.reduceToNat, Nat.reduceLeDiff, PF, isStop, isP, goInt, beq_self_eq_true, decide_true, decide_false, Int.toNat_natCast, Int.natCast_zero, nn_eq, nn_ne, e0, e4, e3, dp, w1, w2, w3, w4, w5, hx1, hadd])
    | ((with_reducible refine CB_intro (fun ht => hcA ?_) (fun ht => hcB ?_)) <;> (first | (simp only [Bool.true_eq_false, Bool.false_eq_true] at ht; done) | ((try simp only [Bool.not_eq_true', Bool.not_eq_false'] at ht); (try simp only [ht]); (try simp only [HTN] at ht); (try (exfalso; omega)))))
    | ((with_reducible refine W_regionI ?_); simp only [List.append_eq, List.cons_append, List.nil_append])
    | (with_reducible refine O_splitG fun cA cB hcA hcB => ?_)
    | ((refine ⟨n / 16, by omega, [hexD (n % 16)] ++ s, by simp only [EVB, Nat.reduceEqDiff, reduceIte, e0], by simp only [EVB, Nat.reduceEqDiff, reduceIte, w5], by simp only [EVB, Nat.reduceEqDiff, reduceIte]; rfl, by rw [hs, hexL_pos (by omega)]; simp, by omega, rfl⟩)))
end
end Go.Proofs.YtdfgdpjlbcnkfaaDoor.Q
namespace Go.Proofs.YtdfgdpjlbcnkfaaDoor.Q
open Go Go.Proofs.YtdfgdpjlbcnkfaaDoorAbs Go.Proofs
set_option linter.unusedVariables false
set_option linter.unusedSimpArgs false
set_option maxRecDepth 100000
set_option maxHeartbeats 4000000
attribute [local irreducible] Go.Proofs.YtdfgdpjlbcnkfaaDoorAbs.O Go.Proofs.YtdfgdpjlbcnkfaaDoorAbs.W Go.Proofs.YtdfgdpjlbcnkfaaDoorAbs.C Go.Proofs.YtdfgdpjlbcnkfaaDoorAbs.OK Go.Proofs.YtdfgdpjlbcnkfaaDoorAbs.OKF Go.Proofs.YtdfgdpjlbcnkfaaDoorAbs.OKT Go.Proofs.YtdfgdpjlbcnkfaaDoorAbs.then_ Go.Proofs.YtdfgdpjlbcnkfaaDoorAbs.inBlock_ Go.Proofs.YtdfgdpjlbcnkfaaDoorAbs.bodyQ Go.Proofs.YtdfgdpjlbcnkfaaDoorAbs.Cont
section
variable {I : Prims} {S : St} {Q : Value → St → Prop}
theorem YNew_C (h : HB I) {k l most : Int} (hv : validB k l = true) (hm : -1 ≤ most) (hkm : ¬ (k = 1 ∧ 0 ≤ most ∧ most < l)) (hQ : ∀ S' b F, RB S' b (BR.fresh k l most) (newX k most) F → Kept S S' none → (∀ i, F i → S.next ≤ i) → S.next ≤ b → Q (.tuple #[.pointer (some ⟨b, 0, some 7⟩), .nilIface]) S') :
    C Tryd.prog I 23 #[.agg #[.int .i64 k, .int .i64 l], .int .i64 most] S Q := by
  have hbd : 0 ≤ boundB most ∧ boundB most ≤ 1099511627776 := by unfold boundB; split <;> omega
  refine BNew_C h (fun q => absurd q (by rw [hv]; simp; omega)) (fun q => absurd q hkm) (fun _ _ _ k2 S' b m kk h1 h2 h3 h4 => ?_) (fun _ _ k2 S' b m bc kk h1 h2 h3 h4 h5 h6 h7 h8 => ?_)
  · refine hQ S' b (fun i => i = b) ?_ kk (fun i q => by have q' : i = b := q; omega) h1
    rw [newX, if_neg k2]
    exact .plain m h3 k2 h4 h2
  · refine hQ S' b (fun i => i = b ∨ i = bc ∨ blkOf (.slice none 0 0) = some i ∨ blkOf (.slice none 0 0) = some i) ?_ kk (fun i q => ?_) h1
    · rw [newX, if_pos k2]
      exact .chunk bc _ _ k2 ⟨⟨m, h3, h4⟩, h2, fun e => h6 e.symm, by simp [blkOf], by simp [blkOf], ⟨0, fresh_rd h8 h7⟩, fresh_inv (by omega)⟩
    · rcases q with q | q | q | q
      · omega
      · omega
      · simp [blkOf] at q
      · simp [blkOf] at q
theorem fresh_binv2 {k l most : Int} (hv : validB k l = true) (hm : -1 ≤ most) (hm2 : most ≤ 9223372036854775807) (hkm : ¬ (k = 1 ∧ 0 ≤ most ∧ most < l)) : BInv (BR.fresh k l most) := by
  refine ⟨Int.le_refl _, by simp [BR.fresh], fun q => ?_, fun q => ⟨by simpa [BR.fresh] using q, hm2⟩⟩
  have q' : k = 1 := q
  subst q'
  have : 0 ≤ l ∧ l ≤ 1099511627776 := by simpa [validB] using hv
  exact ⟨this.1, this.2, fun q => by simp only [BR.fresh] at q ⊢; omega⟩
def wholeB (k l most : Int) (xs : List UInt8) : List UInt8 × Int × Option Int :=
  if validB k l = false ∨ most < -1 then ([], 0, some 1)
  else if k = 1 ∧ 0 ≤ most ∧ most < l then ([], 0, some 33)
  else match (feedX (BR.fresh k l most) (newX k most) xs).2.2.1.err with
    | some c => ([], 0, some c)
    | none => match (endB (feedX (BR.fresh k l most) (newX k most) xs).2.2.1).1 with
      | some c => ([], 0, some c)
      | none => ((feedX (BR.fresh k l most) (newX k most) xs).2.1, (feedX (BR.fresh k l most) (newX k most) xs).1, none)
theorem Whole_C (h : HB I) {k l most : Int} {v : Value} {xs : List UInt8} (hx : Sl S v xs) (hsv : Sv v xs) (hxn : xs.length ≤ 1099511627776) (hvn : ∀ i, blkOf v = some i → i < S.next) (hm2 : most ≤ 9223372036854775807)
    (hQ : ∀ v' S', Own 5 1 S' v' (wholeB k l most xs).1.length (u8v (wholeB k l most xs).1) → Kept S S' none → (∀ i, blkOf v' = some i → S.next ≤ i) → Q (.tuple #[v', .int .i64 (wholeB k l most xs).2.1, errW (wholeB k l most xs).2.2]) S') :
    C Tryd.prog I 9 #[.agg #[.int .i64 k, .int .i64 l], .int .i64 most, v] S Q := by
  refine C_body (rs := [.tmp 6, .tmp 7, .tmp 8]) (h.no 9 (by decide)) Tryd.func9 rfl rfl ok9 ?_
  obtain ⟨u22, sz5, u5, u9, u3, u29, u34, u33, sz3, u4, u41, sz66, u46, sz28, u47, u52, sz22, sz62, sz24, sz59, u59, sz60, u60, sz41, sz58, u58, sz73, sz34, sz4, sz9, sz83, u88, sz86, u112, sz118, u118, u2, sz126, u126, u21, sz130, u130, u139, u140, sz141, u141, u145, u148, sz147, u154, u155⟩ := UF
  have ki := ki24
  have kP : Kept S (S.push ⟨[.int .i64 k, .int .i64 l], 28, true, 0⟩) none := Kept.push _ none
  have gP : (S.push ⟨[.int .i64 k, .int .i64 l], 28, true, 0⟩).get S.next = some ⟨[.int .i64 k, .int .i64 l], 28, true, 0⟩ := St.get_push_self _ _
  have nP : (S.push ⟨[.int .i64 k, .int .i64 l], 28, true, 0⟩).next = S.next + 1 := rfl
  generalize hS0 : S.push ⟨[.int .i64 k, .int .i64 l], 28, true, 0⟩ = S0 at *
  by_cases hbad : validB k l = false ∨ most < -1
  · have hW : wholeB k l most xs = ([], 0, some 1) := by rw [wholeB, if_pos hbad]
    rw [hW] at hQ
    have hq := fun S' (kk : Kept S0 S' none) => hQ (.slice none 0 0) S' (Own.nil _ _ _) (kP.trans kk) (fun _ q => by cases q)
    repeat' (first
    | (with_reducible first | refine W_pushC fun K hK => ?_ | refine W_blockI ?_ | refine W_scopeI ?_ | refine W_labelI ?_ | refine W_skipI ?_ | refine W_retI ?_ | refine W_exitI ?_ | refine then_normalI ?_ | refine then_retI ?_ | refine then_exitI ?_ | refine inBlock_normalI ?_ | refine inBlock_retI ?_ | refine inBlock_exitI ?_ | refine inBlock_exitN (by decide) ?_)
    | ((with_reducible first | refine bodyQ_normal0 ?_ | refine bodyQ_normal1 ?_ | refine bodyQ_normal2 ?_ | refine bodyQ_normal3 ?_ | refine bodyQ_normal4 ?_ | refine bodyQ_ret0 ?_ | refine bodyQ_ret1 ?_ | refine bodyQ_ret2 ?_ | refine bodyQ_ret3 ?_ | refine bodyQ_ret4 ?_); (try simp only [EVB, Nat.reduceEqDiff, reduceIte]))
    | ((with_reducible show C _ _ _ _ _ _); first | (refine BNew_C' h (fun qq S1 k1 => ?_) (fun qv qq => absurd hbad (by rw [qv]; simp; omega)) (fun q1 q2 => absurd hbad (by rw [q1]; simp; omega)) (fun q1 q2 => absurd hbad (by rw [q1]; simp; omega))))
    | (with_reducible refine Cont.use (by assumption) ?_)
    | (with_reducible first | refine hcA ?_ | refine hcB ?_)
    | ((with_reducible first | refine W_condG fun cA cB hcA hcB => ?_ | refine W_regionI ?_ | show O _ _ _ _ _ _ _ _ | show OK _ _ _ _ _ _ _ _ _ | show OKF _ _ _ _ _ _ _ _ _ _ | show OKT _ _ _ _ _ _ _ _ _ _ _ _ | show _ ∧ _ | show CG _ _ _ | show CB _ _ _); simp (disch := first | ((with_reducible show isStop _ = false); rfl) | ((with_reducible show isP _ = true); rfl) | ((with_reducible show (isStop _ || isP _) = false); rfl) | assumption | (simp only [GSB, Nat.reduceEqDiff, reduceIte]; done) | omega | (with_reducible decide) | (simp only [DSB, Go.Proofs.YtdfgdpjlbcnkfaaDoorAbs.oneC, Nat.reduceAdd, Nat.reduceLeDiff] <;> omega)) only [↓DN, ↓reduceIte, UP, CGB, Int.reduceEq, Int.reduceLT, Int.reduceLE, Nat.reduceEqDiff, Nat.reduceAdd, Nat.reduceMul, Nat.reduceSub, Int.reduceToNat, Nat.reduceLeDiff, PF, isStop, isP, goInt, beq_self_eq_true, decide_true, decide_false, Int.toNat_natCast, Int.natCast_zero, nn_eq, nn_ne, gP, hS0])
    | ((with_reducible refine CB_intro (fun ht => hcA ?_) (fun ht => hcB ?_)) <;> (first | (simp only [Bool.true_eq_false, Bool.false_eq_true] at ht; done) | ((try simp only [Bool.not_eq_true', Bool.not_eq_false'] at ht); (try simp only [ht]); (try simp only [HTN] at ht); (try (exfalso; omega)))))
    | ((with_reducible refine W_regionI ?_); simp only [List.append_eq, List.cons_append, List.nil_append])
    | (with_reducible refine O_splitG fun cA cB hcA hcB => ?_)
    | (exact hq _ k1))
  have hv : validB k l = true := by simp only [not_or] at hbad; simpa using hbad.1
  have hm1 : -1 ≤ most := by simp only [not_or] at hbad; omega
  by_cases hbig : k = 1 ∧ 0 ≤ most ∧ most < l
  · have hW : wholeB k l most xs = ([], 0, some 33) := by rw [wholeB, if_neg hbad, if_pos hbig]
    rw [hW] at hQ
    have hq := fun S' (kk : Kept S0 S' none) => hQ (.slice none 0 0) S' (Own.nil _ _ _) (kP.trans kk) (fun _ q => by cases q)
    repeat' (first
    | (with_reducible first | refine W_pushC fun K hK => ?_ | refine W_blockI ?_ | refine W_scopeI ?_ | refine W_labelI ?_ | refine W_skipI ?_ | refine W_retI ?_ | refine W_exitI ?_ | refine then_normalI ?_ | refine then_retI ?_ | refine then_exitI ?_ | refine inBlock_normalI ?_ | refine inBlock_retI ?_ | refine inBlock_exitI ?_ | refine inBlock_exitN (by decide) ?_)
    | ((with_reducible first | refine bodyQ_normal0 ?_ | refine bodyQ_normal1 ?_ | refine bodyQ_normal2 ?_ | refine bodyQ_normal3 ?_ | refine bodyQ_normal4 ?_ | refine bodyQ_ret0 ?_ | refine bodyQ_ret1 ?_ | refine bodyQ_ret2 ?_ | refine bodyQ_ret3 ?_ | refine bodyQ_ret4 ?_); (try simp only [EVB, Nat.reduceEqDiff, reduceIte]))
    | ((with_reducible show C _ _ _ _ _ _); first | (refine BNew_C' h (fun qq => absurd qq hbad) (fun qv qq S1 k1 => ?_) (fun q1 q2 q3 => absurd hbig q3) (fun q1 q2 q3 => absurd hbig.1 (by omega))))
    | (with_reducible refine Cont.use (by assumption) ?_)
    | (with_reducible first | refine hcA ?_ | refine hcB ?_)
    | ((with_reducible first | refine W_condG fun cA cB hcA hcB => ?_ | refine W_regionI ?_ | show O _ _ _ _ _ _ _ _ | show OK _ _ _ _ _ _ _ _ _ | show OKF _ _ _ _ _ _ _ _ _ _ | show OKT _ _ _ _ _ _ _ _ _ _ _ _ | show _ ∧ _ | show CG _ _ _ | show CB _ _ _); simp (disch := first | ((with_reducible show isStop _ = false); rfl) | ((with_reducible show isP _ = true); rfl) | ((with_reducible show (isStop _ || isP _) = false); rfl) | assumption | (simp only [GSB, Nat.reduceEqDiff, reduceIte]; done) | omega | (with_reducible decide) | (simp only [DSB, Go.Proofs.YtdfgdpjlbcnkfaaDoorAbs.oneC, Nat.reduceAdd, Nat.reduceLeDiff] <;> omega)) only [↓DN, ↓reduceIte, UP, CGB, Int.reduceEq, Int.reduceLT, Int.reduceLE, Nat.reduceEqDiff, Nat.reduceAdd, Nat.reduceMul, Nat.reduceSub, Int.reduceToNat, Nat.reduceLeDiff, PF, isStop, isP, goInt, beq_self_eq_true, decide_true, decide_false, Int.toNat_natCast, Int.natCast_zero, nn_eq, nn_ne, gP, hS0])
    | ((with_reducible refine CB_intro (fun ht => hcA ?_) (fun ht => hcB ?_)) <;> (first | (simp only [Bool.true_eq_false, Bool.false_eq_true] at ht; done) | ((try simp only [Bool.not_eq_true', Bool.not_eq_false'] at ht); (try simp only [ht]); (try simp only [HTN] at ht); (try (exfalso; omega)))))
    | ((with_reducible refine W_regionI ?_); simp only [List.append_eq, List.cons_append, List.nil_append])
    | (with_reducible refine O_splitG fun cA cB hcA hcB => ?_)
    | (exact hq _ k1))
  have hW : wholeB k l most xs = (match (feedX (BR.fresh k l most) (newX k most) xs).2.2.1.err with
    | some c => ([], 0, some c)
    | none => match (endB (feedX (BR.fresh k l most) (newX k most) xs).2.2.1).1 with
      | some c => ([], 0, some c)
      | none => ((feedX (BR.fresh k l most) (newX k most) xs).2.1, (feedX (BR.fresh k l most) (newX k most) xs).1, none)) := by rw [wholeB, if_neg hbad, if_neg hbig]
  have hbi := fresh_binv2 hv hm1 hm2 hbig
  repeat' (first
    | (with_reducible first | refine W_pushC fun K hK => ?_ | refine W_blockI ?_ | refine W_scopeI ?_ | refine W_labelI ?_ | refine W_skipI ?_ | refine W_retI ?_ | refine W_exitI ?_ | refine then_normalI ?_ | refine then_retI ?_ | refine then_exitI ?_ | refine inBlock_normalI ?_ | refine inBlock_retI ?_ | refine inBlock_exitI ?_ | refine inBlock_exitN (by decide) ?_)
    | ((with_reducible first | refine bodyQ_normal0 ?_ | refine bodyQ_normal1 ?_ | refine bodyQ_normal2 ?_ | refine bodyQ_normal3 ?_ | refine bodyQ_normal4 ?_ | refine bodyQ_ret0 ?_ | refine bodyQ_ret1 ?_ | refine bodyQ_ret2 ?_ | refine bodyQ_ret3 ?_ | refine bodyQ_ret4 ?_); (try simp only [EVB, Nat.reduceEqDiff, reduceIte]))
    | ((with_reducible show C _ _ _ _ _ _); first | (refine YNew_C h hv hm1 hbig (fun S1 b F hR1 k1 hF1 hb1 => ?_)))
    | (with_reducible refine Cont.use (by assumption) ?_)
    | (with_reducible first | refine hcA ?_ | refine hcB ?_)
    | ((with_reducible first | refine W_condG fun cA cB hcA hcB => ?_ | refine W_regionI ?_ | show O _ _ _ _ _ _ _ _ | show OK _ _ _ _ _ _ _ _ _ | show OKF _ _ _ _ _ _ _ _ _ _ | show OKT _ _ _ _ _ _ _ _ _ _ _ _ | show _ ∧ _ | show CG _ _ _ | show CB _ _ _); simp (disch := first | ((with_reducible show isStop _ = false); rfl) | ((with_reducible show isP _ = true); rfl) | ((with_reducible show (isStop _ || isP _) = false); rfl) | assumption | (simp only [GSB, Nat.reduceEqDiff, reduceIte]; done) | omega | (with_reducible decide) | (simp only [DSB, Go.Proofs.YtdfgdpjlbcnkfaaDoorAbs.oneC, Nat.reduceAdd, Nat.reduceLeDiff] <;> omega)) only [↓DN, ↓reduceIte, UP, CGB, Int.reduceEq, Int.reduceLT, Int.reduceLE, Nat.reduceEqDiff, Nat.reduceAdd, Nat.reduceMul, Nat.reduceSub, Int.reduceToNat, Nat.reduceLeDiff, PF, isStop, isP, goInt, beq_self_eq_true, decide_true, decide_false, Int.toNat_natCast, Int.natCast_zero, nn_eq, nn_ne, gP, hS0])
    | ((with_reducible refine CB_intro (fun ht => hcA ?_) (fun ht => hcB ?_)) <;> (first | (simp only [Bool.true_eq_false, Bool.false_eq_true] at ht; done) | ((try simp only [Bool.not_eq_true', Bool.not_eq_false'] at ht); (try simp only [ht]); (try simp only [HTN] at ht); (try (exfalso; omega)))))
    | ((with_reducible refine W_regionI ?_); simp only [List.append_eq, List.cons_append, List.nil_append])
    | (with_reducible refine O_splitG fun cA cB hcA hcB => ?_))
  have kk1 := kP.trans k1
  refine XFeed_C h hR1 hbi (sl_kept hx kk1 (by simp)) hsv (fun i e => ⟨fun q => by have := hF1 i q; have := hvn i e; omega, by have := hvn i e; have := kk1.1; omega⟩) hxn (fun S2 F' ov hR2 hFp2 hO2 hon2 => ?_)
  have kk2 : Kept S S2 none := ⟨Nat.le_trans kk1.1 hFp2.next, fun i hi _ => (hFp2.keep i (by have := kk1.1; omega) (fun q => by have := hF1 i q; omega)).trans (kk1.2 i hi (by simp))⟩
  have F'0 : ∀ i, F' i → S.next ≤ i := fun i q => by
    rcases hFp2.fp i q with z | z
    · have := hF1 i z; omega
    · have := kk1.1; omega
  generalize hX : feedX (BR.fresh k l most) (newX k most) xs = X at *
  obtain ⟨n1, out1, r1, p1⟩ := X
  simp only at hW hR2 hO2
  cases he : r1.err with
  | some c =>
    rw [he] at hW
    simp only at hW
    rw [hW] at hQ
    repeat' (first
    | (with_reducible first | refine W_pushC fun K hK => ?_ | refine W_blockI ?_ | refine W_scopeI ?_ | refine W_labelI ?_ | refine W_skipI ?_ | refine W_retI ?_ | refine W_exitI ?_ | refine then_normalI ?_ | refine then_retI ?_ | refine then_exitI ?_ | refine inBlock_normalI ?_ | refine inBlock_retI ?_ | refine inBlock_exitI ?_ | refine inBlock_exitN (by decide) ?_)
    | ((with_reducible first | refine bodyQ_normal0 ?_ | refine bodyQ_normal1 ?_ | refine bodyQ_normal2 ?_ | refine bodyQ_normal3 ?_ | refine bodyQ_normal4 ?_ | refine bodyQ_ret0 ?_ | refine bodyQ_ret1 ?_ | refine bodyQ_ret2 ?_ | refine bodyQ_ret3 ?_ | refine bodyQ_ret4 ?_); (try simp only [EVB, Nat.reduceEqDiff, reduceIte]))
    | (with_reducible refine Cont.use (by assumption) ?_)
    | (with_reducible first | refine hcA ?_ | refine hcB ?_)
    | ((with_reducible first | refine W_condG fun cA cB hcA hcB => ?_ | refine W_regionI ?_ | show O _ _ _ _ _ _ _ _ | show OK _ _ _ _ _ _ _ _ _ | show OKF _ _ _ _ _ _ _ _ _ _ | show OKT _ _ _ _ _ _ _ _ _ _ _ _ | show _ ∧ _ | show CG _ _ _ | show CB _ _ _); simp (disch := first | ((with_reducible show isStop _ = false); rfl) | ((with_reducible show isP _ = true); rfl) | ((with_reducible show (isStop _ || isP _) = false); rfl) | assumption | (simp only [GSB, Nat.reduceEqDiff, reduceIte]; done) | omega | (with_reducible decide) | (simp only [DSB, Go.Proofs.YtdfgdpjlbcnkfaaDoorAbs.oneC, Nat.reduceAdd, Nat.reduceLeDiff] <;> omega)) only [↓DN, ↓reduceIte, UP, CGB, Int.reduceEq, Int.reduceLT, Int.reduceLE, Nat.reduceEqDiff, Nat.reduceAdd, Nat.reduceMul, Nat.reduceSub, Int.reduceToNat, Nat.reduceLeDiff, PF, isStop, isP, goInt, beq_self_eq_true, decide_true, decide_false, Int.toNat_natCast, Int.natCast_zero, nn_eq, nn_ne, errW, he])
    | ((with_reducible refine CB_intro (fun ht => hcA ?_) (fun ht => hcB ?_)) <;> (first | (simp only [Bool.true_eq_false, Bool.false_eq_true] at ht; done) | ((try simp only [Bool.not_eq_true', Bool.not_eq_false'] at ht); (try simp only [ht]); (try simp only [HTN] at ht); (try (exfalso; omega)))))
    | ((with_reducible refine W_regionI ?_); simp only [List.append_eq, List.cons_append, List.nil_append])
    | (with_reducible refine O_splitG fun cA cB hcA hcB => ?_)
    | (exact hQ _ _ (Own.nil _ _ _) kk2 (fun _ q => by cases q)))
  | none =>
    rw [he] at hW
    simp only at hW
    have hend : ∀ {Q' : Value → St → Prop}, (∀ S3, Kept S S3 none → Own 5 1 S3 ov out1.length (u8v out1) → Q' (errW (endB r1).1) S3) → C Tryd.prog I 25 #[.pointer (some ⟨b, 0, some 7⟩)] S2 Q' := fun hq => by
      refine XEnd_C h hR2 (fun S3 hR3 hFp3 => hq S3 ⟨Nat.le_trans kk2.1 hFp3.next, fun i hi _ => (hFp3.keep i (by have := kk2.1; omega) (fun q => by have := F'0 i q; omega)).trans (kk2.2 i hi (by simp))⟩ (own_fp hO2 hFp3 (fun i e => (hon2 i e).2)))
    cases hen : (endB r1).1 with
    | some c =>
      rw [hen] at hW hend
      simp only at hW
      rw [hW] at hQ
      repeat' (first
    | (with_reducible first | refine W_pushC fun K hK => ?_ | refine W_blockI ?_ | refine W_scopeI ?_ | refine W_labelI ?_ | refine W_skipI ?_ | refine W_retI ?_ | refine W_exitI ?_ | refine then_normalI ?_ | refine then_retI ?_ | refine then_exitI ?_ | refine inBlock_normalI ?_ | refine inBlock_retI ?_ | refine inBlock_exitI ?_ | refine inBlock_exitN (by decide) ?_)
    | ((with_reducible first | refine bodyQ_normal0 ?_ | refine bodyQ_normal1 ?_ | refine bodyQ_normal2 ?_ | refine bodyQ_normal3 ?_ | refine bodyQ_normal4 ?_ | refine bodyQ_ret0 ?_ | refine bodyQ_ret1 ?_ | refine bodyQ_ret2 ?_ | refine bodyQ_ret3 ?_ | refine bodyQ_ret4 ?_); (try simp only [EVB, Nat.reduceEqDiff, reduceIte]))
    | ((with_reducible show C _ _ _ _ _ _); first | (refine hend (fun S3 k3 hO3 => ?_)))
    | (with_reducible refine Cont.use (by assumption) ?_)
    | (with_reducible first | refine hcA ?_ | refine hcB ?_)
    | ((with_reducible first | refine W_condG fun cA cB hcA hcB => ?_ | refine W_regionI ?_ | show O _ _ _ _ _ _ _ _ | show OK _ _ _ _ _ _ _ _ _ | show OKF _ _ _ _ _ _ _ _ _ _ | show OKT _ _ _ _ _ _ _ _ _ _ _ _ | show _ ∧ _ | show CG _ _ _ | show CB _ _ _); simp (disch := first | ((with_reducible show isStop _ = false); rfl) | ((with_reducible show isP _ = true); rfl) | ((with_reducible show (isStop _ || isP _) = false); rfl) | assumption | (simp only [GSB, Nat.reduceEqDiff, reduceIte]; done) | omega | (with_reducible decide) | (simp only [DSB, Go.Proofs.YtdfgdpjlbcnkfaaDoorAbs.oneC, Nat.reduceAdd, Nat.reduceLeDiff] <;> omega)) only [↓DN, ↓reduceIte, UP, CGB, Int.reduceEq, Int.reduceLT, Int.reduceLE, Nat.reduceEqDiff, Nat.reduceAdd, Nat.reduceMul, Nat.reduceSub, Int.reduceToNat, Nat.reduceLeDiff, PF, isStop, isP, goInt, beq_self_eq_true, decide_true, decide_false, Int.toNat_natCast, Int.natCast_zero, nn_eq, nn_ne, errW, he])
    | ((with_reducible refine CB_intro (fun ht => hcA ?_) (fun ht => hcB ?_)) <;> (first | (simp only [Bool.true_eq_false, Bool.false_eq_true] at ht; done) | ((try simp only [Bool.not_eq_true', Bool.not_eq_false'] at ht); (try simp only [ht]); (try simp only [HTN] at ht); (try (exfalso; omega)))))
    | ((with_reducible refine W_regionI ?_); simp only [List.append_eq, List.cons_append, List.nil_append])
    | (with_reducible refine O_splitG fun cA cB hcA hcB => ?_)
    | (exact hQ _ _ (Own.nil _ _ _) k3 (fun _ q => by cases q)))
    | none =>
      rw [hen] at hW hend
      simp only at hW
      rw [hW] at hQ
      repeat' (first
    | (with_reducible first | refine W_pushC fun K hK => ?_ | refine W_blockI ?_ | refine W_scopeI ?_ | refine W_labelI ?_ | refine W_skipI ?_ | refine W_retI ?_ | refine W_exitI ?_ | refine then_normalI ?_ | refine then_retI ?_ | refine then_exitI ?_ | refine inBlock_normalI ?_ | refine inBlock_retI ?_ | refine inBlock_exitI ?_ | refine inBlock_exitN (by decide) ?_)
    | ((with_reducible first | refine bodyQ_normal0 ?_ | refine bodyQ_normal1 ?_ | refine bodyQ_normal2 ?_ | refine bodyQ_normal3 ?_ | refine bodyQ_normal4 ?_ | refine bodyQ_ret0 ?_ | refine bodyQ_ret1 ?_ | refine bodyQ_ret2 ?_ | refine bodyQ_ret3 ?_ | refine bodyQ_ret4 ?_); (try simp only [EVB, Nat.reduceEqDiff, reduceIte]))
    | ((with_reducible show C _ _ _ _ _ _); first | (refine hend (fun S3 k3 hO3 => ?_)))
    | (with_reducible refine Cont.use (by assumption) ?_)
    | (with_reducible first | refine hcA ?_ | refine hcB ?_)
    | ((with_reducible first | refine W_condG fun cA cB hcA hcB => ?_ | refine W_regionI ?_ | show O _ _ _ _ _ _ _ _ | show OK _ _ _ _ _ _ _ _ _ | show OKF _ _ _ _ _ _ _ _ _ _ | show OKT _ _ _ _ _ _ _ _ _ _ _ _ | show _ ∧ _ | show CG _ _ _ | show CB _ _ _); simp (disch := first | ((with_reducible show isStop _ = false); rfl) | ((with_reducible show isP _ = true); rfl) | ((with_reducible show (isStop _ || isP _) = false); rfl) | assumption | (simp only [GSB, Nat.reduceEqDiff, reduceIte]; done) | omega | (with_reducible decide) | (simp only [DSB, Go.Proofs.YtdfgdpjlbcnkfaaDoorAbs.oneC, Nat.reduceAdd, Nat.reduceLeDiff] <;> omega)) only [↓DN, ↓reduceIte, UP, CGB, Int.reduceEq, Int.reduceLT, Int.reduceLE, Nat.reduceEqDiff, Nat.reduceAdd, Nat.reduceMul, Nat.reduceSub, Int.reduceToNat, Nat.reduceLeDiff, PF, isStop, isP, goInt, beq_self_eq_true, decide_true, decide_false, Int.toNat_natCast, Int.natCast_zero, nn_eq, nn_ne, errW, he])
    | ((with_reducible refine CB_intro (fun ht => hcA ?_) (fun ht => hcB ?_)) <;> (first | (simp only [Bool.true_eq_false, Bool.false_eq_true] at ht; done) | ((try simp only [Bool.not_eq_true', Bool.not_eq_false'] at ht); (try simp only [ht]); (try simp only [HTN] at ht); (try (exfalso; omega)))))
    | ((with_reducible refine W_regionI ?_); simp only [List.append_eq, List.cons_append, List.nil_append])
    | (with_reducible refine O_splitG fun cA cB hcA hcB => ?_)
    | (exact hQ _ _ hO3 k3 (fun i e => by have := (hon2 i e).1; have := kk1.1; omega)))
end
end Go.Proofs.YtdfgdpjlbcnkfaaDoor.Q
namespace Go.Proofs.YtdfgdpjlbcnkfaaDoor.Q
open Go Go.Proofs.YtdfgdpjlbcnkfaaDoorAbs Go.Proofs
set_option linter.unusedVariables false
set_option linter.unusedSimpArgs false
set_option maxRecDepth 100000
set_option maxHeartbeats 4000000
attribute [local irreducible] Go.Proofs.YtdfgdpjlbcnkfaaDoorAbs.O Go.Proofs.YtdfgdpjlbcnkfaaDoorAbs.W Go.Proofs.YtdfgdpjlbcnkfaaDoorAbs.C Go.Proofs.YtdfgdpjlbcnkfaaDoorAbs.OK Go.Proofs.YtdfgdpjlbcnkfaaDoorAbs.OKF Go.Proofs.YtdfgdpjlbcnkfaaDoorAbs.OKT Go.Proofs.YtdfgdpjlbcnkfaaDoorAbs.then_ Go.Proofs.YtdfgdpjlbcnkfaaDoorAbs.inBlock_ Go.Proofs.YtdfgdpjlbcnkfaaDoorAbs.bodyQ Go.Proofs.YtdfgdpjlbcnkfaaDoorAbs.Cont
structure Acc (S0 S : St) (v : Value) (a : List UInt8) : Prop where
  kept : Kept S0 S none
  own : Own 5 1 S v a.length (u8v a)
  new : ∀ i, blkOf v = some i → S0.next ≤ i
theorem Acc.nil (S : St) : Acc S S (.slice none 0 0) [] := ⟨Kept.refl _ _, Own.nil _ _ _, fun _ q => by cases q⟩
theorem Acc.keep {S0 S S' : St} {v : Value} {a : List UInt8} (h : Acc S0 S v a) (k : Kept S S' none) : Acc S0 S' v a := ⟨h.kept.trans k, h.own.kept k (.inl rfl), h.new⟩
section
variable {I : Prims} {S S0 : St} {Q : Value → St → Prop} {e : Env}
theorem acc_step {S' : St} {v v' : Value} {a c : List UInt8} (h : Acc S0 S v a) (hO : Own 5 1 S' v' (a.length + c.length) (u8v a ++ u8v c)) (hK : Kept S S' (blkOf v)) (hB : blkOf v' = blkOf v ∨ ∃ i, S.next ≤ i ∧ blkOf v' = some i) : Acc S0 S' v' (a ++ c) := by
  refine ⟨⟨Nat.le_trans h.kept.1 hK.1, fun i hi _ => (hK.2 i (Nat.lt_of_lt_of_le hi h.kept.1) (fun q => ?_)).trans (h.kept.2 i hi (by simp))⟩, own_cat hO, fun i q => ?_⟩
  · have := h.new i q; omega
  · rcases hB with z | ⟨j, z1, z2⟩
    · exact h.new i (z ▸ q)
    · rw [z2] at q; cases q; have := h.kept.1; omega
theorem O_accB {ops : Array Oper} {r : List Oper} {dst : Option Tmp} {ty : TypeId} {pos : String} {after : Array Edge} {s x : Operand} {a c : List UInt8} {R : Env → St → Prop} (ha : Acc S0 S (e.ev s) a) (hx : Sl S (e.ev x) c) (hl : a.length + c.length ≤ 1099511627776)
    (hk : ∀ v' S', Acc S0 S' v' (a ++ c) → O Tryd.prog I ops r [] R (e.putO dst v') S') : O Tryd.prog I ops (⟨dst, .call ⟨.builtin .append, #[s, x], #[22, 22]⟩, ty, pos, after, none⟩ :: r) [] R e S :=
  O_append (P := Tryd.prog) (elem := 5) (size := 1) (bytes := 1) (n := a.length) (m := c.length) (xs := u8v a) (ys := u8v c) u22 sz5 by5 ze5 ⟨by decide, by decide, rfl⟩ ha.own (sl_src hx) ⟨by simp [u8v], u8v_one _⟩ (by omega) fun v' S' hO hK hB => hk v' S' (acc_step ha hO hK hB)
theorem whole_close (xs : List UInt8) (hn : xs.length ≤ 1099511627776) : wholeB 3 0 xs.length xs = (xs, ((xs.length : Nat) : Int), none) := by
  have hv : validB 3 0 = true := by simp [validB]
  have e : newX 3 (xs.length : Int) = none := by simp [newX]
  unfold wholeB
  rw [if_neg (by rw [hv]; simp <;> omega), if_neg (by omega)]
  simp [e, feedX, feedB, BR.fresh, endB]
theorem fresh_at (most : Int) : (CR.fresh [] [] most : PRd) = CR.at most 0 0 [] := rfl
theorem whole_chunks (a b ys : List UInt8) (hn : a.length + b.length ≤ 1099511627776) : wholeB 2 0 ((a ++ b).length : Nat) (encB a ++ encB b ++ [48, 13, 10, 13, 10] ++ ys) = (a ++ b, (((encB a ++ encB b).length : Nat) : Int) + 5, none) := by
  have hv : validB 2 0 = true := by simp [validB]
  have hl : (a ++ b).length = a.length + b.length := List.length_append
  have hb : boundB (((a ++ b).length : Nat) : Int) = ((a ++ b).length : Nat) := by unfold boundB; rw [if_neg (by omega)]
  have e : newX 2 (((a ++ b).length : Nat) : Int) = some (CR.at ((a ++ b).length : Nat) 0 0 []) := by rw [newX, if_pos rfl, hb, fresh_at]
  unfold wholeB
  rw [if_neg (by rw [hv]; simp <;> omega), if_neg (by omega), e]
  have h1 := chunk_feed (most := ((a ++ b).length : Nat)) (len := 0) (sum := 0) (t := []) a (encB b ++ ([48, 13, 10, 13, 10] ++ ys)) (Int.le_refl _) (by omega) (by omega)
  have h2 := chunk_feed (most := ((a ++ b).length : Nat)) (len := 0 + a.length) (sum := 0) (t := []) b ([48, 13, 10, 13, 10] ++ ys) (by omega) (by omega) (by omega)
  have h3 := last_feed (most := ((a ++ b).length : Nat)) (len := 0 + a.length + b.length) (sum := 0) (t := []) ys (by omega) (by omega) (by omega) (by decide)
  have hx : encB a ++ encB b ++ [48, 13, 10, 13, 10] ++ ys = encB a ++ (encB b ++ ([48, 13, 10, 13, 10] ++ ys)) := by simp
  have h4 : feedF (CR.at ((a ++ b).length : Nat) 0 0 []) (encB a ++ encB b ++ [48, 13, 10, 13, 10] ++ ys) = ((encB a ++ encB b).length + 5, a ++ b, ⟨((a ++ b).length : Nat), 0 + a.length + b.length, 8, none, 1, 0, false, 0, [], 0, []⟩) := by
    rw [hx, h1, h2, h3]; simp; omega
  have d2 : (decide ((2 : Int) = 0) || (decide ((2 : Int) = 1) && decide ((0 : Int) = 0))) = false := by decide
  simp only [feedX, feedC, BR.fresh, d2, h4]
  simp [endB]
theorem whole_length_over (xs : List UInt8) (hn : xs.length ≤ 1099511627776) (h0 : 0 < xs.length) : wholeB 1 xs.length ((xs.length : Int) - 1) xs = ([], 0, some 33) := by
  have hv : validB 1 xs.length = true := by simp [validB]; omega
  unfold wholeB
  rw [if_neg (by rw [hv]; simp <;> omega), if_pos (by omega)]
theorem whole_length' (xs : List UInt8) (hn : xs.length ≤ 1099511627776) (h0 : 0 < xs.length) : wholeB 1 xs.length xs.length xs = (xs, ((xs.length : Nat) : Int), none) := by
  have hv : validB 1 xs.length = true := by simp [validB]; omega
  unfold wholeB
  rw [if_neg (by rw [hv]; simp <;> omega), if_neg (by omega)]
  have e : ∀ m, newX 1 m = none := fun m => by simp [newX]
  have hne : xs ≠ [] := List.length_pos_iff.1 h0
  simp [e, feedX, feedB, BR.fresh, endB, hne]
theorem whole_close_over (xs : List UInt8) (hn : xs.length ≤ 1099511627776) (h0 : 0 < xs.length) : wholeB 3 0 ((xs.length : Int) - 1) xs = ([], 0, some 33) := by
  have hv : validB 3 0 = true := by simp [validB]
  have e : newX 3 ((xs.length : Int) - 1) = none := by simp [newX]
  unfold wholeB
  rw [if_neg (by rw [hv]; simp <;> omega), if_neg (by omega)]
  have hc : (0 : Int) ≤ (xs.length : Int) - 1 ∧ (xs.length : Int) - 1 - 0 < (xs.length : Int) := by omega
  simp only [e, feedX, feedB, BR.fresh, if_pos hc]
  simp
theorem whole_chunks_over (a b ys : List UInt8) (hn : a.length + b.length ≤ 1099511627776) (h0 : 0 < (a ++ b).length) : wholeB 2 0 (((a ++ b).length : Nat) - 1 : Int) (encB a ++ encB b ++ ys) = ([], 0, some 33) := by
  have hv : validB 2 0 = true := by simp [validB]
  have hl : (a ++ b).length = a.length + b.length := List.length_append
  have hb : boundB (((a ++ b).length : Nat) - 1 : Int) = (((a ++ b).length : Nat) - 1 : Int) := by unfold boundB; rw [if_neg (by omega)]
  have e : newX 2 (((a ++ b).length : Nat) - 1 : Int) = some (CR.at (((a ++ b).length : Nat) - 1 : Int) 0 0 []) := by rw [newX, if_pos rfl, hb, fresh_at]
  unfold wholeB
  rw [if_neg (by rw [hv]; simp <;> omega), if_neg (by omega), e]
  have hx : encB a ++ encB b ++ ys = encB a ++ (encB b ++ ys) := by simp
  have h4 : (feedF (CR.at (((a ++ b).length : Nat) - 1 : Int) 0 0 []) (encB a ++ encB b ++ ys)).2.2.err = some 33 := by
    rw [hx]
    by_cases hb0 : b = []
    · subst hb0
      have := (chunk_over (most := ((a.length : Nat) - 1 : Int)) (len := 0) (sum := 0) (t := []) a (encB [] ++ ys) (by omega) (by simp at h0; omega) (by omega) (by omega) (by omega)).2.1
      rw [List.append_nil]; exact this
    · have hb1 := List.length_pos_iff.2 hb0
      rw [chunk_feed (most := (((a ++ b).length : Nat) - 1 : Int)) (len := 0) a _ (by omega) (by omega) (by omega)]
      exact (chunk_over (most := (((a ++ b).length : Nat) - 1 : Int)) (len := 0 + a.length) (sum := 0) (t := []) b ys (by omega) (by omega) (by omega) (by omega) (by omega)).2.1
  have d2 : (decide ((2 : Int) = 0) || (decide ((2 : Int) = 1) && decide ((0 : Int) = 0))) = false := by decide
  simp only [feedX, feedC, BR.fresh]
  rw [if_neg (by simp)]
  simp only [h4]
end
end Go.Proofs.YtdfgdpjlbcnkfaaDoor.Q
namespace Go.Proofs.YtdfgdpjlbcnkfaaDoor.Q
open Go Go.Proofs.YtdfgdpjlbcnkfaaDoorAbs Go.Proofs
set_option linter.unusedVariables false
set_option linter.unusedSimpArgs false
set_option maxRecDepth 100000
set_option maxHeartbeats 4000000
attribute [local irreducible] Go.Proofs.YtdfgdpjlbcnkfaaDoorAbs.O Go.Proofs.YtdfgdpjlbcnkfaaDoorAbs.W Go.Proofs.YtdfgdpjlbcnkfaaDoorAbs.C Go.Proofs.YtdfgdpjlbcnkfaaDoorAbs.OK Go.Proofs.YtdfgdpjlbcnkfaaDoorAbs.OKF Go.Proofs.YtdfgdpjlbcnkfaaDoorAbs.OKT Go.Proofs.YtdfgdpjlbcnkfaaDoorAbs.then_ Go.Proofs.YtdfgdpjlbcnkfaaDoorAbs.inBlock_ Go.Proofs.YtdfgdpjlbcnkfaaDoorAbs.bodyQ Go.Proofs.YtdfgdpjlbcnkfaaDoorAbs.Cont
section
variable {I : Prims} {S : St} {Q : Value → St → Prop}
theorem cut_at {z : Int} {n : Nat} (hn : n ≤ 9223372036854775807) : ∃ j : Nat, j ≤ n ∧ ((0 < n ∧ j < n ∧ IntKind.i64.wrap ((IntKind.u64.wrap z).tmod (n : Int)) = (j : Int)) ∨ (n = 0 ∧ j = 0)) := by
  by_cases h0 : n = 0
  · exact ⟨0, Nat.zero_le _, .inr ⟨h0, rfl⟩⟩
  · have p0 : 0 ≤ IntKind.u64.wrap z := (u64_range z).1
    have h1 : 0 ≤ (IntKind.u64.wrap z).tmod (n : Int) := Int.tmod_nonneg _ p0
    have h2 : (IntKind.u64.wrap z).tmod (n : Int) < (n : Int) := Int.tmod_lt_of_pos _ (by omega)
    exact ⟨((IntKind.u64.wrap z).tmod (n : Int)).toNat, by omega, .inl ⟨by omega, by omega, by rw [Go.Proofs.YtdfgdpjlbcnkfaaDoorAbs.wp64 (by omega) (by omega)]; omega⟩⟩
theorem Acc.sl {S0 S : St} {v : Value} {a : List UInt8} (h : Acc S0 S v a) : Sl S v a := sl_own h.own
theorem acc_new {S S' : St} {v : Value} {a : List UInt8} (hO : Own 5 1 S' v a.length (u8v a)) (k : Kept S S' none) (hn : ∀ i, blkOf v = some i → S.next ≤ i) : Acc S S' v a := ⟨k, hO, hn⟩
theorem encB_len (b : List UInt8) (h : b.length ≤ 1099511627776) : (encB b).length ≤ b.length + 19 := by
  unfold encB
  split
  · simp
  · have := hexL_len 15 b.length (by rw [show (16 : Nat) ^ 15 = 1152921504606846976 from rfl]; omega)
    simp only [List.length_append, List.length_cons, List.length_nil]
    omega
theorem conv_sl {v : Value} {xs : List UInt8} (hx : Sl S v xs) (hs : Sv v xs) : alt (aconvert Tryd.prog S 22 9 v) (lift S (cvX Tryd.prog 22 9 v)) = some (.string ⟨xs.toArray⟩, S) := by
  rcases hs with ⟨rfl, rfl⟩ | ⟨b, o, L, rfl⟩
  · exact conv_any (Own.nil _ _ _)
  · have hu : isU8 Tryd.prog 5 = true := by kernel_rfl
    have e : aconvert Tryd.prog S 22 9 (.slice (some ⟨b, o, some L⟩) xs.length (UNK + 1)) = some (.string ⟨xs.toArray⟩, S) := by
      simp only [aconvert, u22, u9, hu, if_true]
      by_cases h0 : xs.length = 0
      · have := List.length_eq_zero_iff.1 h0
        subst this
        simp [strOfNums]
      · rw [if_neg h0]
        obtain ⟨a, c, e, _, h1⟩ := hx
        cases e
        obtain ⟨b', o', L', cs, el, own, m, e1, e2, e3, e4, e5, e6⟩ := h1 (fun q => h0 (by rw [q]; rfl))
        cases e1
        have hl : ((cs.drop o).take xs.length).length = xs.length := by rw [e5]; simp [u8v]
        have hle : o + xs.length ≤ cs.length := by
          rw [List.length_take, List.length_drop] at hl
          omega
        have er : aread S ⟨b, o, some L⟩ xs.length = some (u8v xs) := by
          unfold aread
          simp only [e3]
          rw [if_pos ⟨e4, hle⟩, e5]
        simp only [er, asInts_u8v]
        simp [strOfNums, Function.comp_def]
    rw [e]
    simp [alt]
end
end Go.Proofs.YtdfgdpjlbcnkfaaDoor.Q
