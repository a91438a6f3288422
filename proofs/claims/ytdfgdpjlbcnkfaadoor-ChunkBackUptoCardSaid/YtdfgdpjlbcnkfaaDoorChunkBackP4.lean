/- What the law ChunkBack needs, part 4: the runner over a plain memory, words, the functions that it reaches, each by its own contract; for the inputs that each theorem names. -/
import Derived.Test.YtdfgdpjlbcnkfaaDoorChunkBackP3
import Derived.Test.YtdfgdpjlbcnkfaaDoorChunkBackP2
import Derived.Shelf.Spec.SlicesGrow
import Derived.Test.YtdfgdpjlbcnkfaaDoorProg
import Derived.Below
import Derived.Deep.Draws
import Derived.Deep.AppendLies
import Derived.Maps.AppendAt
import Derived.OwnWalk
import Derived.Laws.BytesArg
import Derived.Laws.MakeOwn
import Derived.Laws.OwnMore
import Derived.Deep.OwnRows
import Derived.Tactics
import Derived.Lib.ConvBytes
import Derived.Laws.Slices
import Derived.WalkKit
import Derived.KernelRfl
import Derived.RowKit3
import Derived.Deep.LoopGhost
import Derived.Deep.QuietTactic
import Derived.BigQuiet
import Derived.WideLaws
import Derived.Deep.DeepCutAuto
import Derived.Deep.CutBlock
import Derived.Deep.RegionHeld3
import Derived.Laws.Rows
import Derived.Lib.AppendStr
import Derived.ArgAppend
import Derived.Laws.IdiomCopy
import Derived.RowKit
import Derived.Lib.LaidU8
import Derived.MakeChecks
import Derived.LaidHandle
import Derived.OrdersHeld
import Derived.Laws.BitsLemmas
namespace Go.Proofs.YtdfgdpjlbcnkfaaDoor.Q
open Go Go.Proofs.YtdfgdpjlbcnkfaaDoorAbs Go.Proofs
set_option linter.unusedVariables false
set_option linter.unusedSimpArgs false
set_option maxRecDepth 100000
set_option maxHeartbeats 4000000
attribute [local irreducible] Go.Proofs.YtdfgdpjlbcnkfaaDoorAbs.O Go.Proofs.YtdfgdpjlbcnkfaaDoorAbs.W Go.Proofs.YtdfgdpjlbcnkfaaDoorAbs.C Go.Proofs.YtdfgdpjlbcnkfaaDoorAbs.OK Go.Proofs.YtdfgdpjlbcnkfaaDoorAbs.OKF Go.Proofs.YtdfgdpjlbcnkfaaDoorAbs.OKT Go.Proofs.YtdfgdpjlbcnkfaaDoorAbs.then_ Go.Proofs.YtdfgdpjlbcnkfaaDoorAbs.inBlock_ Go.Proofs.YtdfgdpjlbcnkfaaDoorAbs.bodyQ Go.Proofs.YtdfgdpjlbcnkfaaDoorAbs.Cont
structure FR (S : St) (v : Value) (b : Nat) (l : List Fld) : Prop where
  val : v = .slice (some ⟨b, 0, some 0⟩) l.length (UNK + 2)
  cell : S.get b = some ⟨fldv l, 0, false, 0⟩
  lt : b < S.next
theorem FR.kept {S S' : St} {v : Value} {b : Nat} {l : List Fld} (h : FR S v b l) (k : Kept S S' none) : FR S' v b l := ⟨h.val, (k.2 b h.lt (by simp)).trans h.cell, Nat.lt_of_lt_of_le h.lt k.1⟩
theorem FR.row {S : St} {v : Value} {b : Nat} {l : List Fld} (h : FR S v b l) {i : Nat} (hi : i < l.length) : Go.Proofs.YtdfgdpjlbcnkfaaDoorAbs.rowAt (S.get b) (i * 2) 2 0 = some (.agg #[.string (l[i]).1, .string (l[i]).2]) := by
  have hl := fldv_len l
  rw [h.cell, Go.Proofs.YtdfgdpjlbcnkfaaDoorAbs.rowAt_their (by omega), fldv_at l i hi]
theorem lines_take {l : List Fld} {i : Nat} (hi : i < l.length) : linesB (l.take (i + 1)) = linesB (l.take i) ++ lineB l[i] := by
  rw [List.take_add_one, List.getElem?_eq_getElem hi]
  simp only [linesB, List.flatMap_append, Option.toList_some, List.flatMap_cons, List.flatMap_nil, List.append_nil]
theorem lines_len {l : List Fld} (h : ∀ f ∈ l, f.1.size ≤ 1048576 ∧ f.2.size ≤ 1048576) : (linesB l).length ≤ l.length * 2097156 := by
  induction l with
  | nil => simp [linesB]
  | cons f l ih =>
    have h1 := h f (by simp)
    have h2 := ih (fun g hg => h g (by simp [hg]))
    have h3 := lineB_len f
    have e1 : f.1.data.toList.length = f.1.size := Array.length_toList
    have e2 : f.2.data.toList.length = f.2.size := Array.length_toList
    have h4 : linesB (f :: l) = lineB f ++ linesB l := by simp [linesB]
    rw [h4, List.length_append, List.length_cons]
    omega
theorem bs52_3 : ∀ (a0 a1 a2 : Option Addr) (n0 n1 n2 c0 c1 c2 : Nat) (S : St), abuildSlice Tryd.prog S 52 3 #[(0, .slice a0 n0 c0), (1, .slice a1 n1 c1), (2, .slice a2 n2 c2)] = some (.slice (some ⟨S.next, 0, some 3⟩) 3 3, S.push ⟨[.slice a0 n0 c0, .slice a1 n1 c1, .slice a2 n2 c2], 22, true, 0⟩) := by intros; kernel_rfl
theorem line_str (f : Fld) : f.1 ++ (⟨#[58, 32]⟩ : ByteArray) ++ f.2 ++ (⟨#[13, 10]⟩ : ByteArray) = ⟨(lineB f).toArray⟩ := by
  apply ByteArray.ext
  simp [lineB]
section
variable {I : Prims} {S S0 : St} {Q : Value → St → Prop} {e : Env}
theorem Last_C (h : HI I) (hg : HGrow I) {v : Value} {b : Nat} {l : List Fld} (hF : FR S v b l) (hln : l.length ≤ 1048576) (hsz : ∀ f ∈ l, f.1.size ≤ 1048576 ∧ f.2.size ≤ 1048576)
    (hQ0 : ∀ k S', Kept S S' none → Q (.tuple #[.slice none 0 0, .iface 58 (.int .i64 k)]) S')
    (hQ1 : l.length ≤ 64 → (∀ f ∈ l, OkFld f) → (linesB l).length ≤ 8192 → ∀ v' S', Acc S S' v' (lastB l) → Q (.tuple #[v', .nilIface]) S') : C Tryd.prog I 29 #[v] S Q := by
  refine C_body (rs := [.tmp 2, .tmp 3]) (h.no 29 (by decide)) Tryd.func29 rfl rfl ok29 ?_
  obtain ⟨u22, sz5, u5, u9, u3, u29, u34, u33, sz3, u4, u41, sz66, u46, sz28, u47, u52, sz22, sz62, sz24, sz59, u59, sz60, u60, sz41, sz58, u58, sz73, sz34, sz4, sz9, sz83, u88, sz86, u112, sz118, u118, u2, sz126, u126, u21, sz130, u130, u139, u140, sz141, u141, u145, u148, sz147, u154, u155⟩ := UF
  have hv := hF.val
  subst hv
  by_cases hbig : 64 < l.length
  · have hd : decide ((64 : Int) < (l.length : Int)) = true := decide_eq_true (by omega)
    repeat' (first
    | (with_reducible first | refine W_pushC fun K hK => ?_ | refine W_blockI ?_ | refine W_scopeI ?_ | refine W_labelI ?_ | refine W_skipI ?_ | refine W_retI ?_ | refine W_exitI ?_ | refine then_normalI ?_ | refine then_retI ?_ | refine then_exitI ?_ | refine inBlock_normalI ?_ | refine inBlock_retI ?_ | refine inBlock_exitI ?_ | refine inBlock_exitN (by decide) ?_)
    | ((with_reducible first | refine bodyQ_normal0 ?_ | refine bodyQ_normal1 ?_ | refine bodyQ_normal2 ?_ | refine bodyQ_normal3 ?_ | refine bodyQ_normal4 ?_ | refine bodyQ_ret0 ?_ | refine bodyQ_ret1 ?_ | refine bodyQ_ret2 ?_ | refine bodyQ_ret3 ?_ | refine bodyQ_ret4 ?_); (try simp only [EVB, Nat.reduceEqDiff, reduceIte]))
    | (with_reducible refine Cont.use (by assumption) ?_)
    | (with_reducible first | refine hcA ?_ | refine hcB ?_)
    | ((with_reducible first | refine W_condG fun cA cB hcA hcB => ?_ | refine W_regionI ?_ | show O _ _ _ _ _ _ _ _ | show OK _ _ _ _ _ _ _ _ _ | show OKF _ _ _ _ _ _ _ _ _ _ | show OKT _ _ _ _ _ _ _ _ _ _ _ _ | show _ ∧ _ | show CG _ _ _ | show CB _ _ _); simp (disch := first | ((with_reducible show isStop _ = false); rfl) | ((with_reducible show isP _ = true); rfl) | ((with_reducible show (isStop _ || isP _) = false); rfl) | assumption | (simp only [GSB, Nat.reduceEqDiff, reduceIte]; done) | omega | (with_reducible decide) | (simp only [DSB, Go.Proofs.YtdfgdpjlbcnkfaaDoorAbs.oneC, Nat.reduceAdd, Nat.reduceLeDiff] <;> omega) | fail) only [↓DN, ↓reduceIte, UP, CGB, Int.reduceEq, Int.reduceLT, Int.reduceLE, Nat.reduceEqDiff, Nat.reduceAdd, Nat.reduceMul, Nat.reduceSub, Int.reduceToNat, Nat.reduceLeDiff, PF, isStop, isP, goInt, beq_self_eq_true, decide_true, decide_false, Int.toNat_natCast, Int.natCast_zero, nn_eq, nn_ne, hd])
    | ((with_reducible refine CB_intro (fun ht => hcA ?_) (fun ht => hcB ?_)) <;> (first | (simp only [Bool.true_eq_false, Bool.false_eq_true] at ht; done) | ((try simp only [Bool.not_eq_true', Bool.not_eq_false'] at ht); (try simp only [ht]); (try simp only [HTN] at ht); (try (exfalso; omega)))))
    | ((with_reducible refine W_regionI ?_); simp only [List.append_eq, List.cons_append, List.nil_append])
    | (with_reducible refine O_splitG fun cA cB hcA hcB => ?_)
    | (exact hQ0 _ _ (Kept.refl _ _)))
  have hd : decide ((64 : Int) < (l.length : Int)) = false := decide_eq_false (by omega)
  repeat' (first
    | (with_reducible first | refine W_pushC fun K hK => ?_ | refine W_blockI ?_ | refine W_scopeI ?_ | refine W_labelI ?_ | refine W_skipI ?_ | refine W_retI ?_ | refine W_exitI ?_ | refine then_normalI ?_ | refine then_retI ?_ | refine then_exitI ?_ | refine inBlock_normalI ?_ | refine inBlock_retI ?_ | refine inBlock_exitI ?_ | refine inBlock_exitN (by decide) ?_)
    | ((with_reducible first | refine bodyQ_normal0 ?_ | refine bodyQ_normal1 ?_ | refine bodyQ_normal2 ?_ | refine bodyQ_normal3 ?_ | refine bodyQ_normal4 ?_ | refine bodyQ_ret0 ?_ | refine bodyQ_ret1 ?_ | refine bodyQ_ret2 ?_ | refine bodyQ_ret3 ?_ | refine bodyQ_ret4 ?_); (try simp only [EVB, Nat.reduceEqDiff, reduceIte]))
    | (with_reducible refine Cont.use (by assumption) ?_)
    | (with_reducible first | refine hcA ?_ | refine hcB ?_)
    | ((with_reducible first | refine W_condG fun cA cB hcA hcB => ?_ | refine W_regionI ?_ | show O _ _ _ _ _ _ _ _ | show OK _ _ _ _ _ _ _ _ _ | show OKF _ _ _ _ _ _ _ _ _ _ | show OKT _ _ _ _ _ _ _ _ _ _ _ _ | show _ ∧ _ | show CG _ _ _ | show CB _ _ _); simp (disch := first | ((with_reducible show isStop _ = false); rfl) | ((with_reducible show isP _ = true); rfl) | ((with_reducible show (isStop _ || isP _) = false); rfl) | assumption | (simp only [GSB, Nat.reduceEqDiff, reduceIte]; done) | omega | (with_reducible decide) | (simp only [DSB, Go.Proofs.YtdfgdpjlbcnkfaaDoorAbs.oneC, Nat.reduceAdd, Nat.reduceLeDiff] <;> omega) | fail) only [↓DN, ↓reduceIte, UP, CGB, Int.reduceEq, Int.reduceLT, Int.reduceLE, Nat.reduceEqDiff, Nat.reduceAdd, Nat.reduceMul, Nat.reduceSub, Int.reduceToNat, Nat.reduceLeDiff, PF, isStop, isP, goInt, beq_self_eq_true, decide_true, decide_false, Int.toNat_natCast, Int.natCast_zero, nn_eq, nn_ne, hd])
    | ((with_reducible refine CB_intro (fun ht => hcA ?_) (fun ht => hcB ?_)) <;> (first | (simp only [Bool.true_eq_false, Bool.false_eq_true] at ht; done) | ((try simp only [Bool.not_eq_true', Bool.not_eq_false'] at ht); (try simp only [ht]); (try simp only [HTN] at ht); (try (exfalso; omega)))))
    | ((with_reducible refine W_regionI ?_); simp only [List.append_eq, List.cons_append, List.nil_append])
    | (with_reducible refine O_splitG fun cA cB hcA hcB => ?_))
  refine W_loop (fun k e S1 => ∃ (i : Nat) (lv : Value), e.get 0 = .slice (some ⟨b, 0, some 0⟩) l.length (UNK + 2) ∧ e.get 12 = .slice (some ⟨b, 0, some 0⟩) l.length (UNK + 2) ∧ e.get 13 = .int .i64 l.length ∧ e.get 14 = .int .i64 i ∧ e.get 4 = lv ∧ i ≤ l.length ∧ k = l.length - i ∧ Acc S S1 lv (linesB (l.take i)) ∧ ∀ f ∈ l.take i, OkFld f) l.length ⟨0, _, by simp only [EVB, Nat.reduceEqDiff, reduceIte], by simp only [EVB, Nat.reduceEqDiff, reduceIte], by simp only [EVB, Nat.reduceEqDiff, reduceIte], by simp only [EVB, Nat.reduceEqDiff, reduceIte]; rfl, by simp only [EVB, Nat.reduceEqDiff, reduceIte], Nat.zero_le _, by simp, Acc.nil S, by simp⟩ ?_
  rintro k e S1 ⟨i, lv, e0, e12, e13, e14, e4, hi, hk', hA, hok⟩
  by_cases hlt : i < l.length
  · have hd2 : decide ((i : Int) < (l.length : Int)) = true := decide_eq_true (by omega)
    have wi : IntKind.i64.wrap ((i : Int) + 1) = ((i + 1 : Nat) : Int) := by rw [Go.Proofs.YtdfgdpjlbcnkfaaDoorAbs.wp64 (by omega) (by omega)]; omega
    have hrow := (hF.kept hA.kept).row hlt
    have hfm : l[i] ∈ l := List.getElem_mem hlt
    have hlt2 := lines_take hlt
    have hll := lines_len (l := l.take i) (fun f hf => hsz f (List.mem_of_mem_take hf))
    have hok2 : OkFld l[i] → ∀ f ∈ l.take (i + 1), OkFld f := fun hO f hf => by
      rw [List.take_add_one, List.getElem?_eq_getElem hlt, List.mem_append] at hf
      rcases hf with hf | hf
      · exact hok f hf
      · simp at hf; rw [hf]; exact hO
    rw [List.length_take] at hll
    generalize hfe : l[i] = f at hrow hfm hlt2 hok2
    have hfs := hsz f hfm
    by_cases htk : isTokB f.1 = true
    · by_cases htr : trimB f.2 = f.2
      · have ht2 : ((trimB f.2).toList == f.2.toList) = true := by rw [htr]; exact beq_self_eq_true _
        repeat' (first
    | (with_reducible first | refine W_pushC fun K hK => ?_ | refine W_blockI ?_ | refine W_scopeI ?_ | refine W_labelI ?_ | refine W_skipI ?_ | refine W_retI ?_ | refine W_exitI ?_ | refine then_normalI ?_ | refine then_retI ?_ | refine then_exitI ?_ | refine inBlock_normalI ?_ | refine inBlock_retI ?_ | refine inBlock_exitI ?_ | refine inBlock_exitN (by decide) ?_)
    | ((with_reducible first | refine bodyQ_normal0 ?_ | refine bodyQ_normal1 ?_ | refine bodyQ_normal2 ?_ | refine bodyQ_normal3 ?_ | refine bodyQ_normal4 ?_ | refine bodyQ_ret0 ?_ | refine bodyQ_ret1 ?_ | refine bodyQ_ret2 ?_ | refine bodyQ_ret3 ?_ | refine bodyQ_ret4 ?_); (try simp only [EVB, Nat.reduceEqDiff, reduceIte]))
    | ((with_reducible show C _ _ _ _ _ _); first | (refine IsTok_C h (by omega) ?_) | (refine Trim_C h (by omega) ?_))
    | (with_reducible refine Cont.use (by assumption) ?_)
    | (with_reducible first | refine hcA ?_ | refine hcB ?_)
    | ((with_reducible show W _ _ (.region _ _ true) _ _ _); first | (refine W_drawn (fl := [true, false, false, true, true, true, true, true, true, true, true, true]) (by kernel_rfl) ?_))
    | ((with_reducible first | refine W_condG fun cA cB hcA hcB => ?_ | refine W_regionI ?_ | show O _ _ _ _ _ _ _ _ | show OK _ _ _ _ _ _ _ _ _ | show OKF _ _ _ _ _ _ _ _ _ _ | show OKT _ _ _ _ _ _ _ _ _ _ _ _ | show _ ∧ _ | show CG _ _ _ | show CB _ _ _); simp (disch := first | ((with_reducible show isStop _ = false); rfl) | ((with_reducible show isP _ = true); rfl) | ((with_reducible show (isStop _ || isP _) = false); rfl) | assumption | (simp only [GSB, Nat.reduceEqDiff, reduceIte]; done) | omega | (with_reducible decide) | (simp only [DSB, Go.Proofs.YtdfgdpjlbcnkfaaDoorAbs.oneC, Nat.reduceAdd, Nat.reduceLeDiff] <;> omega) | fail) only [↓DN, ↓reduceIte, UP, CGB, Int.reduceEq, Int.reduceLT, Int.reduceLE, Nat.reduceEqDiff, Nat.reduceAdd, Nat.reduceMul, Nat.reduceSub, Int.reduceToNat, Nat.reduceLeDiff, PF, isStop, isP, goInt, beq_self_eq_true, decide_true, decide_false, Int.toNat_natCast, Int.natCast_zero, nn_eq, nn_ne, hd2, e0, e12, e13, e14, e4, wi, hrow, htk, ht2])
    | ((with_reducible refine CB_intro (fun ht => hcA ?_) (fun ht => hcB ?_)) <;> (first | (simp only [Bool.true_eq_false, Bool.false_eq_true] at ht; done) | ((try simp only [Bool.not_eq_true', Bool.not_eq_false'] at ht); (try simp only [ht]); (try simp only [HTN] at ht); (try (exfalso; omega)))))
    | ((with_reducible refine W_regionI ?_); simp only [List.append_eq, List.cons_append, List.nil_append])
    | (with_reducible refine O_splitG fun cA cB hcA hcB => ?_))
        obtain ⟨S2, hS2⟩ : ∃ S2, S2 = (S1.push ⟨[.string ⟨#[]⟩, .string ⟨#[]⟩], 66, true, 0⟩).upd S1.next ⟨[.string f.1, .string f.2], 66, true, 2⟩ := ⟨_, rfl⟩
        rw [← hS2]
        have g2 : S2.get S1.next = some ⟨[.string f.1, .string f.2], 66, true, 2⟩ := by rw [hS2]; exact St.get_upd_self _ _ _
        have k12 : Kept S1 S2 none := by rw [hS2]; exact Kept.upd (Kept.push _ none) (Nat.le_refl _) _
        have hA2 := hA.keep k12
        have kS2 := hA2.kept
        clear hS2
        refine W_loop (fun k e' S3 => ∃ j : Nat, e'.get 0 = .slice (some ⟨b, 0, some 0⟩) l.length (UNK + 2) ∧ e'.get 12 = .slice (some ⟨b, 0, some 0⟩) l.length (UNK + 2) ∧ e'.get 13 = .int .i64 l.length ∧ e'.get 14 = .int .i64 i ∧ e'.get 4 = lv ∧ e'.get 6 = .pointer (some ⟨S1.next, 0, some 2⟩) ∧ e'.get 33 = .int .i64 f.2.size ∧ e'.get 34 = .int .i64 j ∧ j ≤ f.2.size ∧ k = f.2.size - j ∧ ((f.2.data.toList.take j).all fun c => valB (c.toNat : Int)) = true ∧ S3 = S2) f.2.size ⟨0, by simp only [EVB, Nat.reduceEqDiff, reduceIte, e0], by simp only [EVB, Nat.reduceEqDiff, reduceIte, e12], by simp only [EVB, Nat.reduceEqDiff, reduceIte, e13], by simp only [EVB, Nat.reduceEqDiff, reduceIte, e14], by simp only [EVB, Nat.reduceEqDiff, reduceIte, e4], by simp only [EVB, Nat.reduceEqDiff, reduceIte], by simp only [EVB, Nat.reduceEqDiff, reduceIte], by simp only [EVB, Nat.reduceEqDiff, reduceIte]; rfl, Nat.zero_le _, by simp, by simp, rfl⟩ ?_
        clear e0 e12 e13 e14 e4
        rintro k3 e' S3 ⟨j, e0, e12, e13, e14, e4, e6, e33, e34, hj, hk3, hall, rfl⟩
        have hsz2 : f.2.data.toList.length = f.2.size := Array.length_toList
        by_cases hjl : j < f.2.size
        · have hd3 : decide ((j : Int) < (f.2.size : Int)) = true := decide_eq_true (by omega)
          have wj : IntKind.i64.wrap ((j : Int) + 1) = ((j + 1 : Nat) : Int) := by rw [Go.Proofs.YtdfgdpjlbcnkfaaDoorAbs.wp64 (by omega) (by omega)]; omega
          have hix : ixX Tryd.prog 9 (.string f.2) (.int .i64 (j : Int)) = some (.int .u8 ((f.2.data.toList.getD j 0).toNat : Int)) := by
            rw [ixX_string _ _ _ _ u9 (by omega) (by omega), Int.toNat_natCast]
          by_cases hvl : valB ((f.2.data.toList.getD j 0).toNat : Int) = true
          · repeat' (first
    | (with_reducible first | refine W_pushC fun K hK => ?_ | refine W_blockI ?_ | refine W_scopeI ?_ | refine W_labelI ?_ | refine W_skipI ?_ | refine W_retI ?_ | refine W_exitI ?_ | refine then_normalI ?_ | refine then_retI ?_ | refine then_exitI ?_ | refine inBlock_normalI ?_ | refine inBlock_retI ?_ | refine inBlock_exitI ?_ | refine inBlock_exitN (by decide) ?_)
    | ((with_reducible first | refine bodyQ_normal0 ?_ | refine bodyQ_normal1 ?_ | refine bodyQ_normal2 ?_ | refine bodyQ_normal3 ?_ | refine bodyQ_normal4 ?_ | refine bodyQ_ret0 ?_ | refine bodyQ_ret1 ?_ | refine bodyQ_ret2 ?_ | refine bodyQ_ret3 ?_ | refine bodyQ_ret4 ?_); (try simp only [EVB, Nat.reduceEqDiff, reduceIte]))
    | ((with_reducible show C _ _ _ _ _ _); first | (refine Value_C (h.no 39 (by decide)) ?_))
    | (with_reducible refine Cont.use (by assumption) ?_)
    | (with_reducible first | refine hcA ?_ | refine hcB ?_)
    | ((with_reducible show W _ _ (.region _ _ true) _ _ _); first | (refine W_drawn (fl := [true, false, false, true, true, true, true, true, true, true, true, true]) (by kernel_rfl) ?_))
    | ((with_reducible first | refine W_condG fun cA cB hcA hcB => ?_ | refine W_regionI ?_ | show O _ _ _ _ _ _ _ _ | show OK _ _ _ _ _ _ _ _ _ | show OKF _ _ _ _ _ _ _ _ _ _ | show OKT _ _ _ _ _ _ _ _ _ _ _ _ | show _ ∧ _ | show CG _ _ _ | show CB _ _ _); simp (disch := first | ((with_reducible show isStop _ = false); rfl) | ((with_reducible show isP _ = true); rfl) | ((with_reducible show (isStop _ || isP _) = false); rfl) | assumption | (simp only [GSB, Nat.reduceEqDiff, reduceIte]; done) | omega | (with_reducible decide) | (simp only [DSB, Go.Proofs.YtdfgdpjlbcnkfaaDoorAbs.oneC, Nat.reduceAdd, Nat.reduceLeDiff] <;> omega) | fail) only [↓DN, ↓reduceIte, UP, CGB, Int.reduceEq, Int.reduceLT, Int.reduceLE, Nat.reduceEqDiff, Nat.reduceAdd, Nat.reduceMul, Nat.reduceSub, Int.reduceToNat, Nat.reduceLeDiff, PF, isStop, isP, goInt, beq_self_eq_true, decide_true, decide_false, Int.toNat_natCast, Int.natCast_zero, nn_eq, nn_ne, hd3, e0, e12, e13, e14, e4, e6, e33, e34, wj, hix, hvl, g2])
    | ((with_reducible refine CB_intro (fun ht => hcA ?_) (fun ht => hcB ?_)) <;> (first | (simp only [Bool.true_eq_false, Bool.false_eq_true] at ht; done) | ((try simp only [Bool.not_eq_true', Bool.not_eq_false'] at ht); (try simp only [ht]); (try simp only [HTN] at ht); (try (exfalso; omega)))))
    | ((with_reducible refine W_regionI ?_); simp only [List.append_eq, List.cons_append, List.nil_append])
    | (with_reducible refine O_splitG fun cA cB hcA hcB => ?_)
    | ((refine ⟨_, ?_, j + 1, by simp only [EVB, Nat.reduceEqDiff, reduceIte, e0], by simp only [EVB, Nat.reduceEqDiff, reduceIte, e12], by simp only [EVB, Nat.reduceEqDiff, reduceIte, e13], by simp only [EVB, Nat.reduceEqDiff, reduceIte, e14], by simp only [EVB, Nat.reduceEqDiff, reduceIte, e4], by simp only [EVB, Nat.reduceEqDiff, reduceIte, e6], by simp only [EVB, Nat.reduceEqDiff, reduceIte, e33], by simp only [EVB, Nat.reduceEqDiff, reduceIte], by omega, rfl, all_step (by omega) hall hvl, rfl⟩; omega)))
          · have hvf : valB ((f.2.data.toList.getD j 0).toNat : Int) = false := by simpa using hvl
            repeat' (first
    | (with_reducible first | refine W_pushC fun K hK => ?_ | refine W_blockI ?_ | refine W_scopeI ?_ | refine W_labelI ?_ | refine W_skipI ?_ | refine W_retI ?_ | refine W_exitI ?_ | refine then_normalI ?_ | refine then_retI ?_ | refine then_exitI ?_ | refine inBlock_normalI ?_ | refine inBlock_retI ?_ | refine inBlock_exitI ?_ | refine inBlock_exitN (by decide) ?_)
    | ((with_reducible first | refine bodyQ_normal0 ?_ | refine bodyQ_normal1 ?_ | refine bodyQ_normal2 ?_ | refine bodyQ_normal3 ?_ | refine bodyQ_normal4 ?_ | refine bodyQ_ret0 ?_ | refine bodyQ_ret1 ?_ | refine bodyQ_ret2 ?_ | refine bodyQ_ret3 ?_ | refine bodyQ_ret4 ?_); (try simp only [EVB, Nat.reduceEqDiff, reduceIte]))
    | ((with_reducible show C _ _ _ _ _ _); first | (refine Value_C (h.no 39 (by decide)) ?_))
    | (with_reducible refine Cont.use (by assumption) ?_)
    | (with_reducible first | refine hcA ?_ | refine hcB ?_)
    | ((with_reducible show W _ _ (.region _ _ true) _ _ _); first | (refine W_drawn (fl := [true, false, false, true, true, true, true, true, true, true, true, true]) (by kernel_rfl) ?_))
    | ((with_reducible first | refine W_condG fun cA cB hcA hcB => ?_ | refine W_regionI ?_ | show O _ _ _ _ _ _ _ _ | show OK _ _ _ _ _ _ _ _ _ | show OKF _ _ _ _ _ _ _ _ _ _ | show OKT _ _ _ _ _ _ _ _ _ _ _ _ | show _ ∧ _ | show CG _ _ _ | show CB _ _ _); simp (disch := first | ((with_reducible show isStop _ = false); rfl) | ((with_reducible show isP _ = true); rfl) | ((with_reducible show (isStop _ || isP _) = false); rfl) | assumption | (simp only [GSB, Nat.reduceEqDiff, reduceIte]; done) | omega | (with_reducible decide) | (simp only [DSB, Go.Proofs.YtdfgdpjlbcnkfaaDoorAbs.oneC, Nat.reduceAdd, Nat.reduceLeDiff] <;> omega) | fail) only [↓DN, ↓reduceIte, UP, CGB, Int.reduceEq, Int.reduceLT, Int.reduceLE, Nat.reduceEqDiff, Nat.reduceAdd, Nat.reduceMul, Nat.reduceSub, Int.reduceToNat, Nat.reduceLeDiff, PF, isStop, isP, goInt, beq_self_eq_true, decide_true, decide_false, Int.toNat_natCast, Int.natCast_zero, nn_eq, nn_ne, hd3, e0, e12, e13, e14, e4, e6, e33, e34, wj, hix, hvf, g2])
    | ((with_reducible refine CB_intro (fun ht => hcA ?_) (fun ht => hcB ?_)) <;> (first | (simp only [Bool.true_eq_false, Bool.false_eq_true] at ht; done) | ((try simp only [Bool.not_eq_true', Bool.not_eq_false'] at ht); (try simp only [ht]); (try simp only [HTN] at ht); (try (exfalso; omega)))))
    | ((with_reducible refine W_regionI ?_); simp only [List.append_eq, List.cons_append, List.nil_append])
    | (with_reducible refine O_splitG fun cA cB hcA hcB => ?_)
    | (exact hQ0 _ _ kS2))
        · have hd3 : decide ((j : Int) < (f.2.size : Int)) = false := decide_eq_false (by omega)
          rw [List.take_of_length_le (by omega)] at hall
          have hOk : OkFld f := by
            simp only [isTokB, Bool.and_eq_true, Bool.not_eq_true', List.isEmpty_eq_false_iff, List.all_eq_true] at htk
            rw [List.all_eq_true] at hall
            exact ⟨htk.1, htk.2, hall, htr⟩
          have c1 : (f.1 ++ (⟨#[58, 32]⟩ : ByteArray)).size = f.1.size + 2 := by rw [ByteArray.size_append]; rfl
          have c2 : (f.1 ++ (⟨#[58, 32]⟩ : ByteArray) ++ f.2).size = f.1.size + 2 + f.2.size := by rw [ByteArray.size_append, c1]
          have hls := line_str f
          have hfl := lineB_len f
          have hsz1 : f.1.data.toList.length = f.1.size := Array.length_toList
          have a1 : ∀ x y, binX Tryd.prog .add 9 x y (.string f.1) (.string ⟨#[58, 32]⟩) = some (.string (f.1 ++ (⟨#[58, 32]⟩ : ByteArray))) := fun x y => binX_sadd _ _ _ _ _ (by have : (⟨#[58, 32]⟩ : ByteArray).size = 2 := rfl; omega)
          have a2 : ∀ x y, binX Tryd.prog .add 9 x y (.string (f.1 ++ (⟨#[58, 32]⟩ : ByteArray))) (.string f.2) = some (.string (f.1 ++ (⟨#[58, 32]⟩ : ByteArray) ++ f.2)) := fun x y => binX_sadd _ _ _ _ _ (by omega)
          have a3 : ∀ x y, binX Tryd.prog .add 9 x y (.string (f.1 ++ (⟨#[58, 32]⟩ : ByteArray) ++ f.2)) (.string ⟨#[13, 10]⟩) = some (.string ⟨(lineB f).toArray⟩) := fun x y => by
            rw [← hls]; exact binX_sadd _ _ _ _ _ (by have : (⟨#[13, 10]⟩ : ByteArray).size = 2 := rfl; omega)
          repeat' (first
    | (with_reducible first | refine W_pushC fun K hK => ?_ | refine W_blockI ?_ | refine W_scopeI ?_ | refine W_labelI ?_ | refine W_skipI ?_ | refine W_retI ?_ | refine W_exitI ?_ | refine then_normalI ?_ | refine then_retI ?_ | refine then_exitI ?_ | refine inBlock_normalI ?_ | refine inBlock_retI ?_ | refine inBlock_exitI ?_ | refine inBlock_exitN (by decide) ?_)
    | ((with_reducible first | refine bodyQ_normal0 ?_ | refine bodyQ_normal1 ?_ | refine bodyQ_normal2 ?_ | refine bodyQ_normal3 ?_ | refine bodyQ_normal4 ?_ | refine bodyQ_ret0 ?_ | refine bodyQ_ret1 ?_ | refine bodyQ_ret2 ?_ | refine bodyQ_ret3 ?_ | refine bodyQ_ret4 ?_); (try simp only [EVB, Nat.reduceEqDiff, reduceIte]))
    | (with_reducible refine Cont.use (by assumption) ?_)
    | (with_reducible first | refine hcA ?_ | refine hcB ?_)
    | ((with_reducible show W _ _ (.region _ _ true) _ _ _); first | (refine W_drawn (fl := [true, false, false, true, true, true, true, true, true, true, true, true]) (by kernel_rfl) ?_))
    | ((with_reducible first | refine W_condG fun cA cB hcA hcB => ?_ | refine W_regionI ?_ | show O _ _ _ _ _ _ _ _ | show OK _ _ _ _ _ _ _ _ _ | show OKF _ _ _ _ _ _ _ _ _ _ | show OKT _ _ _ _ _ _ _ _ _ _ _ _ | show _ ∧ _ | show CG _ _ _ | show CB _ _ _); simp (disch := first | ((with_reducible show isStop _ = false); rfl) | ((with_reducible show isP _ = true); rfl) | ((with_reducible show (isStop _ || isP _) = false); rfl) | assumption | (simp only [GSB, Nat.reduceEqDiff, reduceIte]; done) | omega | (with_reducible decide) | (simp only [DSB, Go.Proofs.YtdfgdpjlbcnkfaaDoorAbs.oneC, Nat.reduceAdd, Nat.reduceLeDiff] <;> omega) | fail) only [↓DN, ↓reduceIte, UP, CGB, Int.reduceEq, Int.reduceLT, Int.reduceLE, Nat.reduceEqDiff, Nat.reduceAdd, Nat.reduceMul, Nat.reduceSub, Int.reduceToNat, Nat.reduceLeDiff, PF, isStop, isP, goInt, beq_self_eq_true, decide_true, decide_false, Int.toNat_natCast, Int.natCast_zero, nn_eq, nn_ne, hd3, e0, e12, e13, e14, e4, e6, e33, e34, g2, a1, a2, a3])
    | ((with_reducible refine CB_intro (fun ht => hcA ?_) (fun ht => hcB ?_)) <;> (first | (simp only [Bool.true_eq_false, Bool.false_eq_true] at ht; done) | ((try simp only [Bool.not_eq_true', Bool.not_eq_false'] at ht); (try simp only [ht]); (try simp only [HTN] at ht); (try (exfalso; omega)))))
    | ((with_reducible refine W_regionI ?_); simp only [List.append_eq, List.cons_append, List.nil_append])
    | (with_reducible refine O_splitG fun cA cB hcA hcB => ?_))
          refine O_accS (S0 := S) (a := linesB (l.take i)) (c := lineB f) (by simp only [EVB, Nat.reduceEqDiff, reduceIte, e4]; exact hA2) (by simp only [EVB, Nat.reduceEqDiff, reduceIte]) (by omega) fun v' S4 hA4 _ => ?_
          repeat' (first
    | (with_reducible first | refine W_pushC fun K hK => ?_ | refine W_blockI ?_ | refine W_scopeI ?_ | refine W_labelI ?_ | refine W_skipI ?_ | refine W_retI ?_ | refine W_exitI ?_ | refine then_normalI ?_ | refine then_retI ?_ | refine then_exitI ?_ | refine inBlock_normalI ?_ | refine inBlock_retI ?_ | refine inBlock_exitI ?_ | refine inBlock_exitN (by decide) ?_)
    | ((with_reducible first | refine bodyQ_normal0 ?_ | refine bodyQ_normal1 ?_ | refine bodyQ_normal2 ?_ | refine bodyQ_normal3 ?_ | refine bodyQ_normal4 ?_ | refine bodyQ_ret0 ?_ | refine bodyQ_ret1 ?_ | refine bodyQ_ret2 ?_ | refine bodyQ_ret3 ?_ | refine bodyQ_ret4 ?_); (try simp only [EVB, Nat.reduceEqDiff, reduceIte]))
    | (with_reducible refine Cont.use (by assumption) ?_)
    | (with_reducible first | refine hcA ?_ | refine hcB ?_)
    | ((with_reducible show W _ _ (.region _ _ true) _ _ _); first | (refine W_drawn (fl := [true, false, false, true, true, true, true, true, true, true, true, true]) (by kernel_rfl) ?_))
    | ((with_reducible first | refine W_condG fun cA cB hcA hcB => ?_ | refine W_regionI ?_ | show O _ _ _ _ _ _ _ _ | show OK _ _ _ _ _ _ _ _ _ | show OKF _ _ _ _ _ _ _ _ _ _ | show OKT _ _ _ _ _ _ _ _ _ _ _ _ | show _ ∧ _ | show CG _ _ _ | show CB _ _ _); simp (disch := first | ((with_reducible show isStop _ = false); rfl) | ((with_reducible show isP _ = true); rfl) | ((with_reducible show (isStop _ || isP _) = false); rfl) | assumption | (simp only [GSB, Nat.reduceEqDiff, reduceIte]; done) | omega | (with_reducible decide) | (simp only [DSB, Go.Proofs.YtdfgdpjlbcnkfaaDoorAbs.oneC, Nat.reduceAdd, Nat.reduceLeDiff] <;> omega) | fail) only [↓DN, ↓reduceIte, UP, CGB, Int.reduceEq, Int.reduceLT, Int.reduceLE, Nat.reduceEqDiff, Nat.reduceAdd, Nat.reduceMul, Nat.reduceSub, Int.reduceToNat, Nat.reduceLeDiff, PF, isStop, isP, goInt, beq_self_eq_true, decide_true, decide_false, Int.toNat_natCast, Int.natCast_zero, nn_eq, nn_ne, e0, e12, e13, e14, wi])
    | ((with_reducible refine CB_intro (fun ht => hcA ?_) (fun ht => hcB ?_)) <;> (first | (simp only [Bool.true_eq_false, Bool.false_eq_true] at ht; done) | ((try simp only [Bool.not_eq_true', Bool.not_eq_false'] at ht); (try simp only [ht]); (try simp only [HTN] at ht); (try (exfalso; omega)))))
    | ((with_reducible refine W_regionI ?_); simp only [List.append_eq, List.cons_append, List.nil_append])
    | (with_reducible refine O_splitG fun cA cB hcA hcB => ?_)
    | ((refine ⟨_, ?_, i + 1, v', by simp only [EVB, Nat.reduceEqDiff, reduceIte, e0], by simp only [EVB, Nat.reduceEqDiff, reduceIte, e12], by simp only [EVB, Nat.reduceEqDiff, reduceIte, e13], by simp only [EVB, Nat.reduceEqDiff, reduceIte, wi], by simp only [EVB, Nat.reduceEqDiff, reduceIte], by omega, rfl, by rw [hlt2]; exact hA4, hok2 hOk⟩; omega)))
      · have ht2 : ((trimB f.2).toList == f.2.toList) = false := by
          refine Bool.eq_false_iff.2 fun q => htr ?_
          rw [ByteArray.toList_eq, ByteArray.toList_eq] at q
          have q2 := eq_of_beq q
          exact ByteArray.ext (Array.toList_inj.1 q2)
        have kp : ∀ B R, Kept S ((S1.push B).upd S1.next R) none := fun B R => Kept.upd (hA.kept.trans (Kept.push _ none)) hA.kept.1 _
        repeat' (first
    | (with_reducible first | refine W_pushC fun K hK => ?_ | refine W_blockI ?_ | refine W_scopeI ?_ | refine W_labelI ?_ | refine W_skipI ?_ | refine W_retI ?_ | refine W_exitI ?_ | refine then_normalI ?_ | refine then_retI ?_ | refine then_exitI ?_ | refine inBlock_normalI ?_ | refine inBlock_retI ?_ | refine inBlock_exitI ?_ | refine inBlock_exitN (by decide) ?_)
    | ((with_reducible first | refine bodyQ_normal0 ?_ | refine bodyQ_normal1 ?_ | refine bodyQ_normal2 ?_ | refine bodyQ_normal3 ?_ | refine bodyQ_normal4 ?_ | refine bodyQ_ret0 ?_ | refine bodyQ_ret1 ?_ | refine bodyQ_ret2 ?_ | refine bodyQ_ret3 ?_ | refine bodyQ_ret4 ?_); (try simp only [EVB, Nat.reduceEqDiff, reduceIte]))
    | ((with_reducible show C _ _ _ _ _ _); first | (refine IsTok_C h (by omega) ?_) | (refine Trim_C h (by omega) ?_))
    | (with_reducible refine Cont.use (by assumption) ?_)
    | (with_reducible first | refine hcA ?_ | refine hcB ?_)
    | ((with_reducible show W _ _ (.region _ _ true) _ _ _); first | (refine W_drawn (fl := [true, false, false, true, true, true, true, true, true, true, true, true]) (by kernel_rfl) ?_))
    | ((with_reducible first | refine W_condG fun cA cB hcA hcB => ?_ | refine W_regionI ?_ | show O _ _ _ _ _ _ _ _ | show OK _ _ _ _ _ _ _ _ _ | show OKF _ _ _ _ _ _ _ _ _ _ | show OKT _ _ _ _ _ _ _ _ _ _ _ _ | show _ ∧ _ | show CG _ _ _ | show CB _ _ _); simp (disch := first | ((with_reducible show isStop _ = false); rfl) | ((with_reducible show isP _ = true); rfl) | ((with_reducible show (isStop _ || isP _) = false); rfl) | assumption | (simp only [GSB, Nat.reduceEqDiff, reduceIte]; done) | omega | (with_reducible decide) | (simp only [DSB, Go.Proofs.YtdfgdpjlbcnkfaaDoorAbs.oneC, Nat.reduceAdd, Nat.reduceLeDiff] <;> omega) | fail) only [↓DN, ↓reduceIte, UP, CGB, Int.reduceEq, Int.reduceLT, Int.reduceLE, Nat.reduceEqDiff, Nat.reduceAdd, Nat.reduceMul, Nat.reduceSub, Int.reduceToNat, Nat.reduceLeDiff, PF, isStop, isP, goInt, beq_self_eq_true, decide_true, decide_false, Int.toNat_natCast, Int.natCast_zero, nn_eq, nn_ne, hd2, e0, e12, e13, e14, e4, wi, hrow, htk, ht2])
    | ((with_reducible refine CB_intro (fun ht => hcA ?_) (fun ht => hcB ?_)) <;> (first | (simp only [Bool.true_eq_false, Bool.false_eq_true] at ht; done) | ((try simp only [Bool.not_eq_true', Bool.not_eq_false'] at ht); (try simp only [ht]); (try simp only [HTN] at ht); (try (exfalso; omega)))))
    | ((with_reducible refine W_regionI ?_); simp only [List.append_eq, List.cons_append, List.nil_append])
    | (with_reducible refine O_splitG fun cA cB hcA hcB => ?_)
    | (exact hQ0 _ _ (kp _ _)))
    · have htf : isTokB f.1 = false := by simpa using htk
      have kp : ∀ B R, Kept S ((S1.push B).upd S1.next R) none := fun B R => Kept.upd (hA.kept.trans (Kept.push _ none)) hA.kept.1 _
      repeat' (first
    | (with_reducible first | refine W_pushC fun K hK => ?_ | refine W_blockI ?_ | refine W_scopeI ?_ | refine W_labelI ?_ | refine W_skipI ?_ | refine W_retI ?_ | refine W_exitI ?_ | refine then_normalI ?_ | refine then_retI ?_ | refine then_exitI ?_ | refine inBlock_normalI ?_ | refine inBlock_retI ?_ | refine inBlock_exitI ?_ | refine inBlock_exitN (by decide) ?_)
    | ((with_reducible first | refine bodyQ_normal0 ?_ | refine bodyQ_normal1 ?_ | refine bodyQ_normal2 ?_ | refine bodyQ_normal3 ?_ | refine bodyQ_normal4 ?_ | refine bodyQ_ret0 ?_ | refine bodyQ_ret1 ?_ | refine bodyQ_ret2 ?_ | refine bodyQ_ret3 ?_ | refine bodyQ_ret4 ?_); (try simp only [EVB, Nat.reduceEqDiff, reduceIte]))
    | ((with_reducible show C _ _ _ _ _ _); first | (refine IsTok_C h (by omega) ?_) | (refine Trim_C h (by omega) ?_))
    | (with_reducible refine Cont.use (by assumption) ?_)
    | (with_reducible first | refine hcA ?_ | refine hcB ?_)
    | ((with_reducible show W _ _ (.region _ _ true) _ _ _); first | (refine W_drawn (fl := [true, false, false, true, true, true, true, true, true, true, true, true]) (by kernel_rfl) ?_))
    | ((with_reducible first | refine W_condG fun cA cB hcA hcB => ?_ | refine W_regionI ?_ | show O _ _ _ _ _ _ _ _ | show OK _ _ _ _ _ _ _ _ _ | show OKF _ _ _ _ _ _ _ _ _ _ | show OKT _ _ _ _ _ _ _ _ _ _ _ _ | show _ ∧ _ | show CG _ _ _ | show CB _ _ _); simp (disch := first | ((with_reducible show isStop _ = false); rfl) | ((with_reducible show isP _ = true); rfl) | ((with_reducible show (isStop _ || isP _) = false); rfl) | assumption | (simp only [GSB, Nat.reduceEqDiff, reduceIte]; done) | omega | (with_reducible decide) | (simp only [DSB, Go.Proofs.YtdfgdpjlbcnkfaaDoorAbs.oneC, Nat.reduceAdd, Nat.reduceLeDiff] <;> omega) | fail) only [↓DN, ↓reduceIte, UP, CGB, Int.reduceEq, Int.reduceLT, Int.reduceLE, Nat.reduceEqDiff, Nat.reduceAdd, Nat.reduceMul, Nat.reduceSub, Int.reduceToNat, Nat.reduceLeDiff, PF, isStop, isP, goInt, beq_self_eq_true, decide_true, decide_false, Int.toNat_natCast, Int.natCast_zero, nn_eq, nn_ne, hd2, e0, e12, e13, e14, e4, wi, hrow, htf])
    | ((with_reducible refine CB_intro (fun ht => hcA ?_) (fun ht => hcB ?_)) <;> (first | (simp only [Bool.true_eq_false, Bool.false_eq_true] at ht; done) | ((try simp only [Bool.not_eq_true', Bool.not_eq_false'] at ht); (try simp only [ht]); (try simp only [HTN] at ht); (try (exfalso; omega)))))
    | ((with_reducible refine W_regionI ?_); simp only [List.append_eq, List.cons_append, List.nil_append])
    | (with_reducible refine O_splitG fun cA cB hcA hcB => ?_)
    | (exact hQ0 _ _ (kp _ _)))
  · have hd2 : decide ((i : Int) < (l.length : Int)) = false := decide_eq_false (by omega)
    have hall : l.take i = l := List.take_of_length_le (by omega)
    rw [hall] at hA hok
    obtain ⟨la, lc, ela⟩ := own_slice hA.own
    by_cases hls : 8192 < (linesB l).length
    · have hd3 : decide ((8192 : Int) < ((linesB l).length : Int)) = true := decide_eq_true (by omega)
      repeat' (first
    | (with_reducible first | refine W_pushC fun K hK => ?_ | refine W_blockI ?_ | refine W_scopeI ?_ | refine W_labelI ?_ | refine W_skipI ?_ | refine W_retI ?_ | refine W_exitI ?_ | refine then_normalI ?_ | refine then_retI ?_ | refine then_exitI ?_ | refine inBlock_normalI ?_ | refine inBlock_retI ?_ | refine inBlock_exitI ?_ | refine inBlock_exitN (by decide) ?_)
    | ((with_reducible first | refine bodyQ_normal0 ?_ | refine bodyQ_normal1 ?_ | refine bodyQ_normal2 ?_ | refine bodyQ_normal3 ?_ | refine bodyQ_normal4 ?_ | refine bodyQ_ret0 ?_ | refine bodyQ_ret1 ?_ | refine bodyQ_ret2 ?_ | refine bodyQ_ret3 ?_ | refine bodyQ_ret4 ?_); (try simp only [EVB, Nat.reduceEqDiff, reduceIte]))
    | (with_reducible refine Cont.use (by assumption) ?_)
    | (with_reducible first | refine hcA ?_ | refine hcB ?_)
    | ((with_reducible show W _ _ (.region _ _ true) _ _ _); first | (refine W_drawn (fl := [true, false, false, true, true, true, true, true, true, true, true, true]) (by kernel_rfl) ?_))
    | ((with_reducible first | refine W_condG fun cA cB hcA hcB => ?_ | refine W_regionI ?_ | show O _ _ _ _ _ _ _ _ | show OK _ _ _ _ _ _ _ _ _ | show OKF _ _ _ _ _ _ _ _ _ _ | show OKT _ _ _ _ _ _ _ _ _ _ _ _ | show _ ∧ _ | show CG _ _ _ | show CB _ _ _); simp (disch := first | ((with_reducible show isStop _ = false); rfl) | ((with_reducible show isP _ = true); rfl) | ((with_reducible show (isStop _ || isP _) = false); rfl) | assumption | (simp only [GSB, Nat.reduceEqDiff, reduceIte]; done) | omega | (with_reducible decide) | (simp only [DSB, Go.Proofs.YtdfgdpjlbcnkfaaDoorAbs.oneC, Nat.reduceAdd, Nat.reduceLeDiff] <;> omega) | fail) only [↓DN, ↓reduceIte, UP, CGB, Int.reduceEq, Int.reduceLT, Int.reduceLE, Nat.reduceEqDiff, Nat.reduceAdd, Nat.reduceMul, Nat.reduceSub, Int.reduceToNat, Nat.reduceLeDiff, PF, isStop, isP, goInt, beq_self_eq_true, decide_true, decide_false, Int.toNat_natCast, Int.natCast_zero, nn_eq, nn_ne, hd2, e0, e12, e13, e14, e4, ela, hd3])
    | ((with_reducible refine CB_intro (fun ht => hcA ?_) (fun ht => hcB ?_)) <;> (first | (simp only [Bool.true_eq_false, Bool.false_eq_true] at ht; done) | ((try simp only [Bool.not_eq_true', Bool.not_eq_false'] at ht); (try simp only [ht]); (try simp only [HTN] at ht); (try (exfalso; omega)))))
    | ((with_reducible refine W_regionI ?_); simp only [List.append_eq, List.cons_append, List.nil_append])
    | (with_reducible refine O_splitG fun cA cB hcA hcB => ?_)
    | (exact hQ0 _ _ hA.kept))
    · have hd3 : decide ((8192 : Int) < ((linesB l).length : Int)) = false := decide_eq_false (by omega)
      have hc1 : ∀ (S : St) (B : Blk) (b n c : Nat), B.own = true → b < S.next → S.get b = some B → 0 < n → aconvert Tryd.prog S 22 22 (.slice (some ⟨b, 0, some n⟩) n c) = some (.slice (some ⟨b, 0, some n⟩) n c, S.upd b B) := fun S B b n c h1 h2 h3 h4 => by
        have hu : isU8 Tryd.prog 5 = true := by kernel_rfl
        simp only [aconvert, u22, hu, h3, h1, h2, h4, and_self, if_true]
      have hv1 := hc1 (S1.push ⟨[.int .u8 48, .int .u8 13, .int .u8 10], 5, true, 0⟩) ⟨[.int .u8 48, .int .u8 13, .int .u8 10], 5, true, 0⟩ S1.next 3 3 rfl (Nat.lt_succ_self _) (St.get_push_self _ _) (by decide)
      obtain ⟨S2, hS2⟩ : ∃ S2, S2 = (S1.push ⟨[.int .u8 48, .int .u8 13, .int .u8 10], 5, true, 0⟩).upd S1.next ⟨[.int .u8 48, .int .u8 13, .int .u8 10], 5, true, 0⟩ := ⟨_, rfl⟩
      rw [← hS2] at hv1
      have g2 : S2.get S1.next = some ⟨[.int .u8 48, .int .u8 13, .int .u8 10], 5, true, 0⟩ := by rw [hS2]; exact St.get_upd_self _ _ _
      have n2 : S2.next = S1.next + 1 := by rw [hS2]; rfl
      have k2 : Kept S1 S2 none := by rw [hS2]; exact Kept.upd (Kept.push _ none) (Nat.le_refl _) _
      have hv2 := hc1 (S2.push ⟨[.int .u8 13, .int .u8 10], 5, true, 0⟩) ⟨[.int .u8 13, .int .u8 10], 5, true, 0⟩ S2.next 2 2 rfl (Nat.lt_succ_self _) (St.get_push_self _ _) (by decide)
      obtain ⟨S3, hS3⟩ : ∃ S3, S3 = (S2.push ⟨[.int .u8 13, .int .u8 10], 5, true, 0⟩).upd S2.next ⟨[.int .u8 13, .int .u8 10], 5, true, 0⟩ := ⟨_, rfl⟩
      rw [← hS3] at hv2
      have g3 : S3.get S2.next = some ⟨[.int .u8 13, .int .u8 10], 5, true, 0⟩ := by rw [hS3]; exact St.get_upd_self _ _ _
      have n3 : S3.next = S2.next + 1 := by rw [hS3]; rfl
      have k3 : Kept S2 S3 none := by rw [hS3]; exact Kept.upd (Kept.push _ none) (Nat.le_refl _) _
      clear hS2 hS3
      have hK4 : ∀ B, Kept S (S3.push B) none := fun B => ((hA.kept.trans k2).trans k3).trans (Kept.push _ none)
      have g24 : ∀ B, (S3.push B).get S1.next = some ⟨u8v [48, 13, 10], 5, true, 0⟩ := fun B => by rw [St.get_push_ne _ _ (by omega), k3.2 _ (by omega) (by simp), g2]; rfl
      have g34 : ∀ B, (S3.push B).get S2.next = some ⟨u8v [13, 10], 5, true, 0⟩ := fun B => by rw [St.get_push_ne _ _ (by omega), g3]; rfl
      have hAo : ∀ B, Sl (S3.push B) lv (linesB l) := fun B => sl_own (((hA.keep k2).keep k3).keep (Kept.push B none)).own
      subst ela
      have hlast : lastB l = ([[48, 13, 10], linesB l, [13, 10]] : List (List UInt8)).flatten := by simp [lastB]
      repeat' (first
    | (with_reducible first | refine W_pushC fun K hK => ?_ | refine W_blockI ?_ | refine W_scopeI ?_ | refine W_labelI ?_ | refine W_skipI ?_ | refine W_retI ?_ | refine W_exitI ?_ | refine then_normalI ?_ | refine then_retI ?_ | refine then_exitI ?_ | refine inBlock_normalI ?_ | refine inBlock_retI ?_ | refine inBlock_exitI ?_ | refine inBlock_exitN (by decide) ?_)
    | ((with_reducible first | refine bodyQ_normal0 ?_ | refine bodyQ_normal1 ?_ | refine bodyQ_normal2 ?_ | refine bodyQ_normal3 ?_ | refine bodyQ_normal4 ?_ | refine bodyQ_ret0 ?_ | refine bodyQ_ret1 ?_ | refine bodyQ_ret2 ?_ | refine bodyQ_ret3 ?_ | refine bodyQ_ret4 ?_); (try simp only [EVB, Nat.reduceEqDiff, reduceIte]))
    | ((with_reducible show C _ _ _ _ _ _); first | ((refine Concat_C h hg (m := 0) (x0 := [48, 13, 10]) (bs := [[48, 13, 10], linesB l, [13, 10]]) rfl rfl (by decide) (St.get_push_self _ _) (by decide) (Nat.lt_succ_self _) ?_ (by simp; omega) rfl (by decide) (fun v' S5 hA5 => ?_))))
    | (with_reducible refine Cont.use (by assumption) ?_)
    | (with_reducible first | refine hcA ?_ | refine hcB ?_)
    | ((with_reducible show W _ _ (.region _ _ true) _ _ _); first | (refine W_drawn (fl := [true, false, false, true, true, true, true, true, true, true, true, true]) (by kernel_rfl) ?_))
    | ((with_reducible first | refine W_condG fun cA cB hcA hcB => ?_ | refine W_regionI ?_ | show O _ _ _ _ _ _ _ _ | show OK _ _ _ _ _ _ _ _ _ | show OKF _ _ _ _ _ _ _ _ _ _ | show OKT _ _ _ _ _ _ _ _ _ _ _ _ | show _ ∧ _ | show CG _ _ _ | show CB _ _ _); simp (disch := first | ((with_reducible show isStop _ = false); rfl) | ((with_reducible show isP _ = true); rfl) | ((with_reducible show (isStop _ || isP _) = false); rfl) | assumption | (simp only [GSB, Nat.reduceEqDiff, reduceIte]; done) | omega | (with_reducible decide) | (simp only [DSB, Go.Proofs.YtdfgdpjlbcnkfaaDoorAbs.oneC, Nat.reduceAdd, Nat.reduceLeDiff] <;> omega) | fail) only [↓DN, ↓reduceIte, UP, CGB, Int.reduceEq, Int.reduceLT, Int.reduceLE, Nat.reduceEqDiff, Nat.reduceAdd, Nat.reduceMul, Nat.reduceSub, Int.reduceToNat, Nat.reduceLeDiff, PF, isStop, isP, goInt, beq_self_eq_true, decide_true, decide_false, Int.toNat_natCast, Int.natCast_zero, nn_eq, nn_ne, hd2, e0, e12, e13, e14, e4, hd3, hv1, hv2, bs52_3])
    | ((with_reducible refine CB_intro (fun ht => hcA ?_) (fun ht => hcB ?_)) <;> (first | (simp only [Bool.true_eq_false, Bool.false_eq_true] at ht; done) | ((try simp only [Bool.not_eq_true', Bool.not_eq_false'] at ht); (try simp only [ht]); (try simp only [HTN] at ht); (try (exfalso; omega)))))
    | ((with_reducible refine W_regionI ?_); simp only [List.append_eq, List.cons_append, List.nil_append])
    | (with_reducible refine O_splitG fun cA cB hcA hcB => ?_))
      · intro i v hiv
        have hU : 3 < UNK := by decide
        have hU2 : 2 < UNK := by decide
        match i, hiv with
        | 0, hiv => cases hiv; exact ⟨_, rfl, _, _, rfl, (fun q => by cases q), fun _ => ⟨_, _, _, _, _, _, _, rfl, .inr ⟨Nat.le_refl _, hU⟩, g24 _, fun _ => ⟨Nat.zero_le _, Nat.le_refl _⟩, rfl, by simp only [St.next_push]; omega⟩⟩
        | 1, hiv => cases hiv; exact ⟨_, rfl, hAo _⟩
        | 2, hiv => cases hiv; exact ⟨_, rfl, _, _, rfl, (fun q => by cases q), fun _ => ⟨_, _, _, _, _, _, _, rfl, .inr ⟨Nat.le_refl _, hU2⟩, g34 _, fun _ => ⟨Nat.zero_le _, Nat.le_refl _⟩, rfl, by simp only [St.next_push]; omega⟩⟩
      · rw [← hlast] at hA5
        exact hQ1 (by omega) hok (by omega) v' S5 ⟨(hK4 _).trans hA5.kept, hA5.own, fun j q => Nat.le_trans (hK4 _).1 (hA5.new j q)⟩
end
end Go.Proofs.YtdfgdpjlbcnkfaaDoor.Q
namespace Go.Proofs.YtdfgdpjlbcnkfaaDoor.Q
open Go Go.Proofs.YtdfgdpjlbcnkfaaDoorAbs Go.Proofs
set_option linter.unusedVariables false
set_option linter.unusedSimpArgs false
set_option maxRecDepth 100000
set_option maxHeartbeats 4000000
attribute [local irreducible] Go.Proofs.YtdfgdpjlbcnkfaaDoorAbs.O Go.Proofs.YtdfgdpjlbcnkfaaDoorAbs.W Go.Proofs.YtdfgdpjlbcnkfaaDoorAbs.C Go.Proofs.YtdfgdpjlbcnkfaaDoorAbs.OK Go.Proofs.YtdfgdpjlbcnkfaaDoorAbs.OKF Go.Proofs.YtdfgdpjlbcnkfaaDoorAbs.OKT Go.Proofs.YtdfgdpjlbcnkfaaDoorAbs.then_ Go.Proofs.YtdfgdpjlbcnkfaaDoorAbs.inBlock_ Go.Proofs.YtdfgdpjlbcnkfaaDoorAbs.bodyQ Go.Proofs.YtdfgdpjlbcnkfaaDoorAbs.Cont
section
variable {I : Prims} {S S0 : St} {Q : Value → St → Prop} {e : Env}
theorem CWhole_C (h : HI I) {most : Int} (hm0 : 0 ≤ most) (hm1 : most ≤ 1099511627776) {v : Value} {xs : List UInt8} (hx : Sl S v xs) (hvn : ∀ i, blkOf v = some i → i < S.next) (hxn : xs.length ≤ 1099511627776)
    (hQ0 : ∀ c, (feedF (CR.fresh [] [] most) xs).2.2.err = some c → ∀ S', Kept S S' none → Q (.tuple #[.slice none 0 0, .slice none 0 0, .int .i64 (feedF (CR.fresh [] [] most) xs).1, errW (some c)]) S')
    (hQ1 : (feedF (CR.fresh [] [] most) xs).2.2.err = none → (feedF (CR.fresh [] [] most) xs).2.2.state = 8 ∧ ∀ ov tv S', Own 5 1 S' ov (feedF (CR.fresh [] [] most) xs).2.1.length (u8v (feedF (CR.fresh [] [] most) xs).2.1) → Own 66 2 S' tv (feedF (CR.fresh [] [] most) xs).2.2.trailers.length (fldv (feedF (CR.fresh [] [] most) xs).2.2.trailers) → Kept S S' none →
      (∀ i, blkOf ov = some i → S.next ≤ i) → Q (.tuple #[ov, tv, .int .i64 (feedF (CR.fresh [] [] most) xs).1, .nilIface]) S') :
    C Tryd.prog I 31 #[v, .int .i64 most] S Q := by
  refine C_body (rs := [.tmp 4, .tmp 5, .tmp 6, .tmp 7]) (h.no 31 (by decide)) Tryd.func31 rfl rfl ok31 ?_
  obtain ⟨u22, sz5, u5, u9, u3, u29, u34, u33, sz3, u4, u41, sz66, u46, sz28, u47, u52, sz22, sz62, sz24, sz59, u59, sz60, u60, sz41, sz58, u58, sz73, sz34, sz4, sz9, sz83, u88, sz86, u112, sz118, u118, u2, sz126, u126, u21, sz130, u130, u139, u140, sz141, u141, u145, u148, sz147, u154, u155⟩ := UF
  have ki := ki24
  have hb : ¬ (most < 0 ∨ 1099511627776 < most) := by omega
  have hg : (S.push ⟨(CR.fresh (.slice none 0 0) (.slice none 0 0) most).cells, 62, true, 0⟩).get S.next = some ⟨(CR.fresh (.slice none 0 0) (.slice none 0 0) most).cells, 62, true, 0⟩ := St.get_push_self _ _
  have hR := fresh_rd hg (Nat.lt_succ_self _)
  have k1 : Kept S (S.push ⟨(CR.fresh (.slice none 0 0) (.slice none 0 0) most).cells, 62, true, 0⟩) none := Kept.push _ none
  have hap : Apart v S.next (.slice none 0 0) (.slice none 0 0) := fun i hi => ⟨by have := hvn i hi; omega, by simp [blkOf], by simp [blkOf]⟩
  generalize hS1 : S.push ⟨(CR.fresh (.slice none 0 0) (.slice none 0 0) most).cells, 62, true, 0⟩ = S1 at *
  repeat' (first
    | (with_reducible first | refine W_pushC fun K hK => ?_ | refine W_blockI ?_ | refine W_scopeI ?_ | refine W_labelI ?_ | refine W_skipI ?_ | refine W_retI ?_ | refine W_exitI ?_ | refine then_normalI ?_ | refine then_retI ?_ | refine then_exitI ?_ | refine inBlock_normalI ?_ | refine inBlock_retI ?_ | refine inBlock_exitI ?_ | refine inBlock_exitN (by decide) ?_)
    | ((with_reducible first | refine bodyQ_normal0 ?_ | refine bodyQ_normal1 ?_ | refine bodyQ_normal2 ?_ | refine bodyQ_normal3 ?_ | refine bodyQ_normal4 ?_ | refine bodyQ_ret0 ?_ | refine bodyQ_ret1 ?_ | refine bodyQ_ret2 ?_ | refine bodyQ_ret3 ?_ | refine bodyQ_ret4 ?_); (try simp only [EVB, Nat.reduceEqDiff, reduceIte]))
    | ((with_reducible show C _ _ _ _ _ _); first | (refine New_C h (fun _ => ?_) (fun q => absurd q hb)) | (refine Feed_C h hR (fresh_inv hb) (sl_kept hx k1 (by simp)) hap (fun i hi => Nat.lt_of_lt_of_le (hvn i hi) k1.1) hxn (fun S2 tv lv m ov hR2 hI2 hM hO hon hap2 => ?_)))
    | (with_reducible refine Cont.use (by assumption) ?_)
    | (with_reducible first | refine hcA ?_ | refine hcB ?_)
    | ((with_reducible first | refine W_condG fun cA cB hcA hcB => ?_ | refine W_regionI ?_ | show O _ _ _ _ _ _ _ _ | show OK _ _ _ _ _ _ _ _ _ | show OKF _ _ _ _ _ _ _ _ _ _ | show OKT _ _ _ _ _ _ _ _ _ _ _ _ | show _ ∧ _ | show CG _ _ _ | show CB _ _ _); simp (disch := first | ((with_reducible show isStop _ = false); rfl) | ((with_reducible show isP _ = true); rfl) | ((with_reducible show (isStop _ || isP _) = false); rfl) | assumption | (simp only [GSB, Nat.reduceEqDiff, reduceIte]; done) | omega | (with_reducible decide) | (simp only [DSB, Go.Proofs.YtdfgdpjlbcnkfaaDoorAbs.oneC, Nat.reduceAdd, Nat.reduceLeDiff] <;> omega) | fail) only [↓DN, ↓reduceIte, UP, CGB, Int.reduceEq, Int.reduceLT, Int.reduceLE, Nat.reduceEqDiff, Nat.reduceAdd, Nat.reduceMul, Nat.reduceSub, Int.reduceToNat, Nat.reduceLeDiff, PF, isStop, isP, goInt, beq_self_eq_true, decide_true, decide_false, Int.toNat_natCast, Int.natCast_zero, nn_eq, nn_ne, hS1])
    | ((with_reducible refine CB_intro (fun ht => hcA ?_) (fun ht => hcB ?_)) <;> (first | (simp only [Bool.true_eq_false, Bool.false_eq_true] at ht; done) | ((try simp only [Bool.not_eq_true', Bool.not_eq_false'] at ht); (try simp only [ht]); (try simp only [HTN] at ht); (try (exfalso; omega)))))
    | ((with_reducible refine W_regionI ?_); simp only [List.append_eq, List.cons_append, List.nil_append])
    | (with_reducible refine O_splitG fun cA cB hcA hcB => ?_))
  have k2 : Kept S S2 none := (mv_base hM k1 (Nat.le_refl _) (fun i q => by cases q) (fun i q => by cases q)).1
  have hon2 : ∀ i, blkOf ov = some i → S.next ≤ i := fun i q => Nat.le_trans k1.1 (hon i q)
  generalize feedF (CR.fresh [] [] most) xs = F at *
  cases he : F.2.2.err with
  | some c =>
    have hq := hQ0 c he _ k2
    simp only [errW] at hq ⊢
    repeat' (first
    | (with_reducible first | refine W_pushC fun K hK => ?_ | refine W_blockI ?_ | refine W_scopeI ?_ | refine W_labelI ?_ | refine W_skipI ?_ | refine W_retI ?_ | refine W_exitI ?_ | refine then_normalI ?_ | refine then_retI ?_ | refine then_exitI ?_ | refine inBlock_normalI ?_ | refine inBlock_retI ?_ | refine inBlock_exitI ?_ | refine inBlock_exitN (by decide) ?_)
    | ((with_reducible first | refine bodyQ_normal0 ?_ | refine bodyQ_normal1 ?_ | refine bodyQ_normal2 ?_ | refine bodyQ_normal3 ?_ | refine bodyQ_normal4 ?_ | refine bodyQ_ret0 ?_ | refine bodyQ_ret1 ?_ | refine bodyQ_ret2 ?_ | refine bodyQ_ret3 ?_ | refine bodyQ_ret4 ?_); (try simp only [EVB, Nat.reduceEqDiff, reduceIte]))
    | (with_reducible refine Cont.use (by assumption) ?_)
    | (with_reducible first | refine hcA ?_ | refine hcB ?_)
    | ((with_reducible first | refine W_condG fun cA cB hcA hcB => ?_ | refine W_regionI ?_ | show O _ _ _ _ _ _ _ _ | show OK _ _ _ _ _ _ _ _ _ | show OKF _ _ _ _ _ _ _ _ _ _ | show OKT _ _ _ _ _ _ _ _ _ _ _ _ | show _ ∧ _ | show CG _ _ _ | show CB _ _ _); simp (disch := first | ((with_reducible show isStop _ = false); rfl) | ((with_reducible show isP _ = true); rfl) | ((with_reducible show (isStop _ || isP _) = false); rfl) | assumption | (simp only [GSB, Nat.reduceEqDiff, reduceIte]; done) | omega | (with_reducible decide) | (simp only [DSB, Go.Proofs.YtdfgdpjlbcnkfaaDoorAbs.oneC, Nat.reduceAdd, Nat.reduceLeDiff] <;> omega) | fail) only [↓DN, ↓reduceIte, UP, CGB, Int.reduceEq, Int.reduceLT, Int.reduceLE, Nat.reduceEqDiff, Nat.reduceAdd, Nat.reduceMul, Nat.reduceSub, Int.reduceToNat, Nat.reduceLeDiff, PF, isStop, isP, goInt, beq_self_eq_true, decide_true, decide_false, Int.toNat_natCast, Int.natCast_zero, nn_eq, nn_ne])
    | ((with_reducible refine CB_intro (fun ht => hcA ?_) (fun ht => hcB ?_)) <;> (first | (simp only [Bool.true_eq_false, Bool.false_eq_true] at ht; done) | ((try simp only [Bool.not_eq_true', Bool.not_eq_false'] at ht); (try simp only [ht]); (try simp only [HTN] at ht); (try (exfalso; omega)))))
    | ((with_reducible refine W_regionI ?_); simp only [List.append_eq, List.cons_append, List.nil_append])
    | (with_reducible refine O_splitG fun cA cB hcA hcB => ?_)
    | (exact hq))
  | none =>
    obtain ⟨h8, hq⟩ := hQ1 he
    have hd8 : decide (F.2.2.state = 8) = true := decide_eq_true h8
    simp only [errW]
    repeat' (first
    | (with_reducible first | refine W_pushC fun K hK => ?_ | refine W_blockI ?_ | refine W_scopeI ?_ | refine W_labelI ?_ | refine W_skipI ?_ | refine W_retI ?_ | refine W_exitI ?_ | refine then_normalI ?_ | refine then_retI ?_ | refine then_exitI ?_ | refine inBlock_normalI ?_ | refine inBlock_retI ?_ | refine inBlock_exitI ?_ | refine inBlock_exitN (by decide) ?_)
    | ((with_reducible first | refine bodyQ_normal0 ?_ | refine bodyQ_normal1 ?_ | refine bodyQ_normal2 ?_ | refine bodyQ_normal3 ?_ | refine bodyQ_normal4 ?_ | refine bodyQ_ret0 ?_ | refine bodyQ_ret1 ?_ | refine bodyQ_ret2 ?_ | refine bodyQ_ret3 ?_ | refine bodyQ_ret4 ?_); (try simp only [EVB, Nat.reduceEqDiff, reduceIte]))
    | ((with_reducible show C _ _ _ _ _ _); first | (refine Trailers_C h hR2 (Nat.le_trans hI2.trl.1 (by decide)) (fun v2 S3 hO3 k3 hn3 => ?_)))
    | (with_reducible refine Cont.use (by assumption) ?_)
    | (with_reducible first | refine hcA ?_ | refine hcB ?_)
    | ((with_reducible first | refine W_condG fun cA cB hcA hcB => ?_ | refine W_regionI ?_ | show O _ _ _ _ _ _ _ _ | show OK _ _ _ _ _ _ _ _ _ | show OKF _ _ _ _ _ _ _ _ _ _ | show OKT _ _ _ _ _ _ _ _ _ _ _ _ | show _ ∧ _ | show CG _ _ _ | show CB _ _ _); simp (disch := first | ((with_reducible show isStop _ = false); rfl) | ((with_reducible show isP _ = true); rfl) | ((with_reducible show (isStop _ || isP _) = false); rfl) | assumption | (simp only [GSB, Nat.reduceEqDiff, reduceIte]; done) | omega | (with_reducible decide) | (simp only [DSB, Go.Proofs.YtdfgdpjlbcnkfaaDoorAbs.oneC, Nat.reduceAdd, Nat.reduceLeDiff] <;> omega) | fail) only [↓DN, ↓reduceIte, UP, CGB, Int.reduceEq, Int.reduceLT, Int.reduceLE, Nat.reduceEqDiff, Nat.reduceAdd, Nat.reduceMul, Nat.reduceSub, Int.reduceToNat, Nat.reduceLeDiff, PF, isStop, isP, goInt, beq_self_eq_true, decide_true, decide_false, Int.toNat_natCast, Int.natCast_zero, nn_eq, nn_ne, hd8])
    | ((with_reducible refine CB_intro (fun ht => hcA ?_) (fun ht => hcB ?_)) <;> (first | (simp only [Bool.true_eq_false, Bool.false_eq_true] at ht; done) | ((try simp only [Bool.not_eq_true', Bool.not_eq_false'] at ht); (try simp only [ht]); (try simp only [HTN] at ht); (try (exfalso; omega)))))
    | ((with_reducible refine W_regionI ?_); simp only [List.append_eq, List.cons_append, List.nil_append])
    | (with_reducible refine O_splitG fun cA cB hcA hcB => ?_)
    | (exact hq _ _ _ (hO.kept k3 (.inl rfl)) hO3 (k2.trans k3) hon2))
end
end Go.Proofs.YtdfgdpjlbcnkfaaDoor.Q
namespace Go.Proofs.YtdfgdpjlbcnkfaaDoor.Q
open Go Go.Proofs.YtdfgdpjlbcnkfaaDoorAbs Go.Proofs
set_option linter.unusedVariables false
set_option linter.unusedSimpArgs false
set_option maxRecDepth 100000
set_option maxHeartbeats 4000000
attribute [local irreducible] Go.Proofs.YtdfgdpjlbcnkfaaDoorAbs.O Go.Proofs.YtdfgdpjlbcnkfaaDoorAbs.W Go.Proofs.YtdfgdpjlbcnkfaaDoorAbs.C Go.Proofs.YtdfgdpjlbcnkfaaDoorAbs.OK Go.Proofs.YtdfgdpjlbcnkfaaDoorAbs.OKF Go.Proofs.YtdfgdpjlbcnkfaaDoorAbs.OKT Go.Proofs.YtdfgdpjlbcnkfaaDoorAbs.then_ Go.Proofs.YtdfgdpjlbcnkfaaDoorAbs.inBlock_ Go.Proofs.YtdfgdpjlbcnkfaaDoorAbs.bodyQ Go.Proofs.YtdfgdpjlbcnkfaaDoorAbs.Cont
theorem over_feed {most : Int} (h2 : most ≤ 1099511627776) : ∀ (ps : List (List UInt8)) (len : Int) (rest : List UInt8), 0 ≤ len → len ≤ most → most < len + ps.flatten.length → (∀ b ∈ ps, b.length ≤ 5000) →
    (feedF (CR.at most len 0 []) (partsB ps ++ rest)).2.2.err = some 33
  | [], len, rest, h0, h1, hl, hb => by simp at hl; omega
  | b :: ps, len, rest, h0, h1, hl, hb => by
    have e : partsB (b :: ps) ++ rest = encB b ++ (partsB ps ++ rest) := by simp [partsB]
    have hb0 := hb b (by simp)
    rw [e]
    by_cases q : most < len + b.length
    · exact (chunk_over (most := most) (len := len) (sum := 0) (t := []) b (partsB ps ++ rest) h0 h1 h2 q (by omega)).2.1
    · have a1 := chunk_feed (most := most) (len := len) (sum := 0) (t := []) b (partsB ps ++ rest) h0 h2 (by omega)
      simp only [List.flatten_cons, List.length_append] at hl
      have a2 := over_feed h2 ps (len + b.length) rest (by omega) (by omega) (by omega) (fun c hc => hb c (by simp [hc]))
      rw [a1]
      exact a2
theorem back_feed (ps : List (List UInt8)) (l : List Fld) (rest : List UInt8) (hp : ps.flatten.length ≤ 1099511627776) (hl : ∀ f ∈ l, OkFld f) (hs : (linesB l).length ≤ 8192) (ht : l.length ≤ 64) :
    (feedF (CR.fresh [] [] (ps.flatten.length : Nat)) (partsB ps ++ lastB l ++ rest)).1 = (partsB ps ++ lastB l).length ∧ (feedF (CR.fresh [] [] (ps.flatten.length : Nat)) (partsB ps ++ lastB l ++ rest)).2.1 = ps.flatten ∧
    (feedF (CR.fresh [] [] (ps.flatten.length : Nat)) (partsB ps ++ lastB l ++ rest)).2.2.err = none ∧ (feedF (CR.fresh [] [] (ps.flatten.length : Nat)) (partsB ps ++ lastB l ++ rest)).2.2.state = 8 ∧ (feedF (CR.fresh [] [] (ps.flatten.length : Nat)) (partsB ps ++ lastB l ++ rest)).2.2.trailers = l := by
  have hm : ((ps.flatten.length : Nat) : Int) ≤ 1099511627776 := by omega
  have a1 := parts_feed hm ps 0 (lastB l ++ rest) (Int.le_refl _) (by omega)
  have a2 := lastT_feed (most := (ps.flatten.length : Nat)) (len := 0 + (ps.flatten.length : Nat)) rest (by omega) (by omega) hm hl hs ht
  have e : (CR.fresh [] [] ((ps.flatten.length : Nat) : Int) : PRd) = CR.at ((ps.flatten.length : Nat) : Int) 0 0 [] := rfl
  rw [e, List.append_assoc, a1, a2]
  simp
theorem enc_len {b : List UInt8} (h : b.length ≤ 5000) : (encB b).length ≤ 5019 := by
  have hL := hexL_len 15 b.length (by rw [show (16 : Nat) ^ 15 = 1152921504606846976 from rfl]; omega)
  unfold encB
  split
  · simp
  · simp; omega
theorem parts_take {ps : List (List UInt8)} {i : Nat} {x : List UInt8} (h : ps[i]? = some x) : partsB (ps.take (i + 1)) = partsB (ps.take i) ++ encB x := by
  rw [List.take_add_one, h]
  simp [partsB]
theorem last_ne (l : List Fld) : lastB l ≠ [] := by simp [lastB]
structure Two (S0 S : St) (vt va : Value) (t a : List UInt8) : Prop where
  t : Acc S0 S vt t
  a : Acc S0 S va a
  ne : ∀ i, blkOf vt = some i → blkOf va ≠ some i
theorem Two.symm {S0 S : St} {vt va : Value} {t a : List UInt8} (h : Two S0 S vt va t a) : Two S0 S va vt a t := ⟨h.a, h.t, fun i q z => h.ne i z q⟩
theorem Two.keep {S0 S S' : St} {vt va : Value} {t a : List UInt8} (h : Two S0 S vt va t a) (k : Kept S S' none) : Two S0 S' vt va t a := ⟨h.t.keep k, h.a.keep k, h.ne⟩
section
variable {I : Prims} {S S0 : St} {Q : Value → St → Prop} {e : Env}
theorem O_twoB {ops : Array Oper} {r : List Oper} {dst : Option Tmp} {ty : TypeId} {pos : String} {after : Array Edge} {s x : Operand} {t a c : List UInt8} {va : Value} {R : Env → St → Prop} (ha : Two S0 S (e.ev s) va t a) (hx : Sl S (e.ev x) c) (hl : t.length + c.length ≤ 1099511627776)
    (hk : ∀ v' S', Two S0 S' v' va (t ++ c) a → O Tryd.prog I ops r [] R (e.putO dst v') S') : O Tryd.prog I ops (⟨dst, .call ⟨.builtin .append, #[s, x], #[22, 22]⟩, ty, pos, after, none⟩ :: r) [] R e S :=
  O_append (P := Tryd.prog) (elem := 5) (size := 1) (bytes := 1) (n := t.length) (m := c.length) (xs := u8v t) (ys := u8v c) u22 sz5 by5 ze5 ⟨by decide, by decide, rfl⟩ ha.t.own (sl_src hx) ⟨by simp [u8v], u8v_one _⟩ (by omega) fun v' S' hO hK hB => by
    have hA := acc_step ha.t hO hK hB
    refine hk v' S' ⟨hA, ⟨hA.kept, ha.a.own.kept hK ?_, ha.a.new⟩, fun i q z => ?_⟩
    · cases hq : blkOf (e.ev s) with
      | none => exact .inl rfl
      | some i => exact .inr (fun q => ha.ne i hq q.symm)
    · rcases hB with w | ⟨j, w1, w2⟩
      · exact ha.ne i (w ▸ q) z
      · rw [w2] at q; cases q
        have := own_lt ha.a.own z
        omega
theorem O_accX {ops : Array Oper} {r : List Oper} {dst : Option Tmp} {ty : TypeId} {pos : String} {after : Array Edge} {s x : Operand} {a c : List UInt8} {R : Env → St → Prop} (ha : Acc S0 S (e.ev s) a) (h0 : a ≠ []) (hx : e.ev x = .string ⟨c.toArray⟩) (hl : a.length + c.length ≤ 1099511627776)
    (hk : ∀ v' S', Acc S0 S' v' (a ++ c) → Sl S' (e.ev s) a → Kept S S' (blkOf (e.ev s)) → O Tryd.prog I ops r [] R (e.putO dst v') S') : O Tryd.prog I ops (⟨dst, .call ⟨.builtin .append, #[s, x], #[22, 9]⟩, ty, pos, after, none⟩ :: r) [] R e S := by
  have hal := List.length_pos_iff.2 h0
  obtain ⟨b, m, hv, hb, hm, hbn⟩ := own_some ha.own hal
  have hla : (u8v a).length = a.length := by simp [u8v]
  have hlc : (u8v c).length = c.length := by simp [u8v]
  rw [hla] at hv hm
  have hsrc : asrc Tryd.prog S 9 1 (e.ev x) = some (c.length, u8v c) := by rw [hx]; simp [asrc, u9, byteCells, u8v, ByteArray.size]
  have hz : (Value.int IntKind.u8 0).cells.size = 1 := rfl
  by_cases hc0 : c = []
  · subst hc0
    have hap : aappend Tryd.prog S 22 9 (e.ev s) (e.ev x) = some (e.ev s, S) := by
      simp only [aappend, u22, sz5, by5, ze5, hsrc, hv, hz]
      rw [if_pos ⟨by decide, by decide, trivial⟩]
      rfl
    have hf := hk (e.ev s) S (by simpa using ha) (sl_own ha.own) (Kept.refl _ _)
    rw [O_step rfl]
    have : aop Tryd.prog e.ev ⟨dst, .call ⟨.builtin .append, #[s, x], #[22, 9]⟩, ty, pos, after, none⟩ S = some (e.ev s, S) := by
      rw [aop_builtin]
      show alt (aappend Tryd.prog S 22 9 (e.ev s) (e.ev x)) _ = _
      rw [hap, alt_some]
    rw [this]
    exact ⟨rfl, hf⟩
  · have hcl := List.length_pos_iff.2 hc0
    have hap : aappend Tryd.prog S 22 9 (e.ev s) (e.ev x) = some (.slice (some ⟨b, 0, some (a.length + c.length)⟩) (a.length + c.length) (UNK + 1), S.upd b ⟨u8v a ++ u8v c, 5, true, m⟩) := by
      simp only [aappend, u22, sz5, by5, ze5, hsrc, hv, hz]
      rw [if_pos ⟨by decide, by decide, trivial⟩]
      simp only [hb, hla, hlc, if_neg (show ¬ c.length = 0 by omega), if_true]
      rw [if_pos ⟨trivial, trivial, hm, by omega, hbn, trivial, by omega⟩]
    have hA : Acc S0 (S.upd b ⟨u8v a ++ u8v c, 5, true, m⟩) (.slice (some ⟨b, 0, some (a.length + c.length)⟩) (a.length + c.length) (UNK + 1)) (a ++ c) := by
      refine acc_step ha ⟨by simp [u8v], by rw [List.all_append, u8v_one, u8v_one]; rfl, .inr ⟨b, m, by rw [List.length_append, hla, hlc], St.get_upd_self _ _ _, by rw [List.length_append]; omega, hbn, by omega⟩⟩ ⟨Nat.le_refl _, fun i _ q => S.get_upd_ne _ (fun z => q (by rw [hv, z]; rfl))⟩ (.inl (by rw [hv]; rfl))
    have hS : Sl (S.upd b ⟨u8v a ++ u8v c, 5, true, m⟩) (e.ev s) a := by
      refine ⟨_, _, hv, fun q => (by cases q), fun _ => ⟨b, 0, a.length, _, 5, true, m, rfl, .inl rfl, St.get_upd_self _ _ _, fun _ => ⟨hm, by omega⟩, ?_, hbn⟩⟩
      rw [List.drop_zero, ← hla, List.take_left]
    have hf := hk _ _ hA hS ⟨Nat.le_refl _, fun i _ q => S.get_upd_ne _ (fun z => q (by rw [hv, z]; rfl))⟩
    rw [O_step rfl]
    have : aop Tryd.prog e.ev ⟨dst, .call ⟨.builtin .append, #[s, x], #[22, 9]⟩, ty, pos, after, none⟩ S = some (.slice (some ⟨b, 0, some (a.length + c.length)⟩) (a.length + c.length) (UNK + 1), S.upd b ⟨u8v a ++ u8v c, 5, true, m⟩) := by
      rw [aop_builtin]
      show alt (aappend Tryd.prog S 22 9 (e.ev s) (e.ev x)) _ = _
      rw [hap, alt_some]
    rw [this]
    exact ⟨rfl, hf⟩
theorem fieldsR_C (h : HI I) {v1 v2 : Value} {b2 : Nat} {xs : List Fld} (hO1 : Own 66 2 S v1 xs.length (fldv xs)) (hF2 : FR S v2 b2 xs) (hn : xs.length ≤ 1048576) (hQ : Q (.bool true) S) : C Tryd.prog I 17 #[v1, v2] S Q := by
  refine C_body (rs := [.tmp 4]) (h.no 17 (by decide)) Tryd.func17 rfl rfl ok17 ?_
  obtain ⟨u22, sz5, u5, u9, u3, u29, u34, u33, sz3, u4, u41, sz66, u46, sz28, u47, u52, sz22, sz62, sz24, sz59, u59, sz60, u60, sz41, sz58, u58, sz73, sz34, sz4, sz9, sz83, u88, sz86, u112, sz118, u118, u2, sz126, u126, u21, sz130, u130, u139, u140, sz141, u141, u145, u148, sz147, u154, u155⟩ := UF
  obtain ⟨a1, c1, e1⟩ := own_slice hO1
  have h1 := hO1
  have e2 := hF2.val
  subst e1 e2
  repeat' (first
    | (with_reducible first | refine W_pushC fun K hK => ?_ | refine W_blockI ?_ | refine W_scopeI ?_ | refine W_labelI ?_ | refine W_skipI ?_ | refine W_retI ?_ | refine W_exitI ?_ | refine then_normalI ?_ | refine then_retI ?_ | refine then_exitI ?_ | refine inBlock_normalI ?_ | refine inBlock_retI ?_ | refine inBlock_exitI ?_ | refine inBlock_exitN (by decide) ?_)
    | ((with_reducible first | refine bodyQ_normal0 ?_ | refine bodyQ_normal1 ?_ | refine bodyQ_normal2 ?_ | refine bodyQ_normal3 ?_ | refine bodyQ_normal4 ?_ | refine bodyQ_ret0 ?_ | refine bodyQ_ret1 ?_ | refine bodyQ_ret2 ?_ | refine bodyQ_ret3 ?_ | refine bodyQ_ret4 ?_); (try simp only [EVB, Nat.reduceEqDiff, reduceIte]))
    | (with_reducible refine Cont.use (by assumption) ?_)
    | (with_reducible first | refine hcA ?_ | refine hcB ?_)
    | ((with_reducible first | refine W_condG fun cA cB hcA hcB => ?_ | refine W_regionI ?_ | show O _ _ _ _ _ _ _ _ | show OK _ _ _ _ _ _ _ _ _ | show OKF _ _ _ _ _ _ _ _ _ _ | show OKT _ _ _ _ _ _ _ _ _ _ _ _ | show _ ∧ _ | show CG _ _ _ | show CB _ _ _); simp (disch := first | ((with_reducible show isStop _ = false); rfl) | ((with_reducible show isP _ = true); rfl) | ((with_reducible show (isStop _ || isP _) = false); rfl) | assumption | (simp only [GSB, Nat.reduceEqDiff, reduceIte]; done) | omega | (with_reducible decide) | (simp only [DSB, Go.Proofs.YtdfgdpjlbcnkfaaDoorAbs.oneC, Nat.reduceAdd, Nat.reduceLeDiff] <;> omega) | fail) only [↓DN, ↓reduceIte, UP, CGB, Int.reduceEq, Int.reduceLT, Int.reduceLE, Nat.reduceEqDiff, Nat.reduceAdd, Nat.reduceMul, Nat.reduceSub, Int.reduceToNat, Nat.reduceLeDiff, PF, isStop, isP, goInt, beq_self_eq_true, decide_true, decide_false, Int.toNat_natCast, Int.natCast_zero, nn_eq, nn_ne])
    | ((with_reducible refine CB_intro (fun ht => hcA ?_) (fun ht => hcB ?_)) <;> (first | (simp only [Bool.true_eq_false, Bool.false_eq_true] at ht; done) | ((try simp only [Bool.not_eq_true', Bool.not_eq_false'] at ht); (try simp only [ht]); (try simp only [HTN] at ht); (try (exfalso; omega)))))
    | ((with_reducible refine W_regionI ?_); simp only [List.append_eq, List.cons_append, List.nil_append])
    | (with_reducible refine O_splitG fun cA cB hcA hcB => ?_))
  refine W_loop (fun n e S1 => ∃ i : Nat, e.get 0 = .slice a1 xs.length c1 ∧ e.get 1 = .slice (some ⟨b2, 0, some 0⟩) xs.length (UNK + 2) ∧ e.get 5 = .int .i64 i ∧ i ≤ xs.length ∧ n = xs.length - i ∧ S1 = S) xs.length ⟨0, by simp only [EVB, Nat.reduceEqDiff, reduceIte], by simp only [EVB, Nat.reduceEqDiff, reduceIte], by simp only [EVB, Nat.reduceEqDiff, reduceIte]; rfl, Nat.zero_le _, by simp, rfl⟩ ?_
  rintro n e S1 ⟨i, e0, e1, e5, hi, hn', rfl⟩
  have wi : IntKind.i64.wrap ((i : Int) + 1) = ((i + 1 : Nat) : Int) := by rw [Go.Proofs.YtdfgdpjlbcnkfaaDoorAbs.wp64 (by omega) (by omega)]; omega
  by_cases hlt : i < xs.length
  · have hd : decide ((i : Int) < (xs.length : Int)) = true := decide_eq_true (by omega)
    obtain ⟨b1, m1, q1, g1, k1, n1⟩ := own_some h1 (by omega)
    cases q1
    have hl := fldv_len xs
    have r1 : Go.Proofs.YtdfgdpjlbcnkfaaDoorAbs.rowAt (S1.get b1) (0 + i * 2) 2 (fldv xs).length = some (.agg #[.string (xs[i]).1, .string (xs[i]).2]) := by
      rw [g1, Go.Proofs.YtdfgdpjlbcnkfaaDoorAbs.rowAt_own k1 (by omega) (by omega), Nat.zero_add, fldv_at xs i hlt]
    have r2 := hF2.row hlt
    rw [Nat.zero_add] at r1
    have q1 : ((xs[i]).1 == (xs[i]).1) = true := by rw [Go.beq_toListBytes]; exact beq_self_eq_true _
    have q2 : ((xs[i]).2 == (xs[i]).2) = true := by rw [Go.beq_toListBytes]; exact beq_self_eq_true _
    repeat' (first
    | (with_reducible first | refine W_pushC fun K hK => ?_ | refine W_blockI ?_ | refine W_scopeI ?_ | refine W_labelI ?_ | refine W_skipI ?_ | refine W_retI ?_ | refine W_exitI ?_ | refine then_normalI ?_ | refine then_retI ?_ | refine then_exitI ?_ | refine inBlock_normalI ?_ | refine inBlock_retI ?_ | refine inBlock_exitI ?_ | refine inBlock_exitN (by decide) ?_)
    | ((with_reducible first | refine bodyQ_normal0 ?_ | refine bodyQ_normal1 ?_ | refine bodyQ_normal2 ?_ | refine bodyQ_normal3 ?_ | refine bodyQ_normal4 ?_ | refine bodyQ_ret0 ?_ | refine bodyQ_ret1 ?_ | refine bodyQ_ret2 ?_ | refine bodyQ_ret3 ?_ | refine bodyQ_ret4 ?_); (try simp only [EVB, Nat.reduceEqDiff, reduceIte]))
    | (with_reducible refine Cont.use (by assumption) ?_)
    | (with_reducible first | refine hcA ?_ | refine hcB ?_)
    | ((with_reducible show W _ _ (.region _ _ true) _ _ _); first | (refine W_drawn (fl := [true, true, true, true, true, true, true, true, true]) (by kernel_rfl) ?_))
    | ((with_reducible first | refine W_condG fun cA cB hcA hcB => ?_ | refine W_regionI ?_ | show O _ _ _ _ _ _ _ _ | show OK _ _ _ _ _ _ _ _ _ | show OKF _ _ _ _ _ _ _ _ _ _ | show OKT _ _ _ _ _ _ _ _ _ _ _ _ | show _ ∧ _ | show CG _ _ _ | show CB _ _ _); simp (disch := first | ((with_reducible show isStop _ = false); rfl) | ((with_reducible show isP _ = true); rfl) | ((with_reducible show (isStop _ || isP _) = false); rfl) | assumption | (simp only [GSB, Nat.reduceEqDiff, reduceIte]; done) | omega | (with_reducible decide) | (simp only [DSB, Go.Proofs.YtdfgdpjlbcnkfaaDoorAbs.oneC, Nat.reduceAdd, Nat.reduceLeDiff] <;> omega) | fail) only [↓DN, ↓reduceIte, UP, CGB, Int.reduceEq, Int.reduceLT, Int.reduceLE, Nat.reduceEqDiff, Nat.reduceAdd, Nat.reduceMul, Nat.reduceSub, Int.reduceToNat, Nat.reduceLeDiff, PF, isStop, isP, goInt, beq_self_eq_true, decide_true, decide_false, Int.toNat_natCast, Int.natCast_zero, nn_eq, nn_ne, hd, e0, e1, e5, wi, r1, r2, ne66, q1, q2])
    | ((with_reducible refine CB_intro (fun ht => hcA ?_) (fun ht => hcB ?_)) <;> (first | (simp only [Bool.true_eq_false, Bool.false_eq_true] at ht; done) | ((try simp only [Bool.not_eq_true', Bool.not_eq_false'] at ht); (try simp only [ht]); (try simp only [HTN] at ht); (try (exfalso; omega)))))
    | ((with_reducible refine W_regionI ?_); simp only [List.append_eq, List.cons_append, List.nil_append])
    | (with_reducible refine O_splitG fun cA cB hcA hcB => ?_)
    | ((refine ⟨_, ?_, i + 1, by simp only [EVB, Nat.reduceEqDiff, reduceIte, e0], by simp only [EVB, Nat.reduceEqDiff, reduceIte, e1], by simp only [EVB, Nat.reduceEqDiff, reduceIte], by omega, rfl, rfl⟩; omega)))
  · have hd : decide ((i : Int) < (xs.length : Int)) = false := decide_eq_false (by omega)
    repeat' (first
    | (with_reducible first | refine W_pushC fun K hK => ?_ | refine W_blockI ?_ | refine W_scopeI ?_ | refine W_labelI ?_ | refine W_skipI ?_ | refine W_retI ?_ | refine W_exitI ?_ | refine then_normalI ?_ | refine then_retI ?_ | refine then_exitI ?_ | refine inBlock_normalI ?_ | refine inBlock_retI ?_ | refine inBlock_exitI ?_ | refine inBlock_exitN (by decide) ?_)
    | ((with_reducible first | refine bodyQ_normal0 ?_ | refine bodyQ_normal1 ?_ | refine bodyQ_normal2 ?_ | refine bodyQ_normal3 ?_ | refine bodyQ_normal4 ?_ | refine bodyQ_ret0 ?_ | refine bodyQ_ret1 ?_ | refine bodyQ_ret2 ?_ | refine bodyQ_ret3 ?_ | refine bodyQ_ret4 ?_); (try simp only [EVB, Nat.reduceEqDiff, reduceIte]))
    | (with_reducible refine Cont.use (by assumption) ?_)
    | (with_reducible first | refine hcA ?_ | refine hcB ?_)
    | ((with_reducible show W _ _ (.region _ _ true) _ _ _); first | (refine W_drawn (fl := [true, true, true, true, true, true, true, true, true]) (by kernel_rfl) ?_))
    | ((with_reducible first | refine W_condG fun cA cB hcA hcB => ?_ | refine W_regionI ?_ | show O _ _ _ _ _ _ _ _ | show OK _ _ _ _ _ _ _ _ _ | show OKF _ _ _ _ _ _ _ _ _ _ | show OKT _ _ _ _ _ _ _ _ _ _ _ _ | show _ ∧ _ | show CG _ _ _ | show CB _ _ _); simp (disch := first | ((with_reducible show isStop _ = false); rfl) | ((with_reducible show isP _ = true); rfl) | ((with_reducible show (isStop _ || isP _) = false); rfl) | assumption | (simp only [GSB, Nat.reduceEqDiff, reduceIte]; done) | omega | (with_reducible decide) | (simp only [DSB, Go.Proofs.YtdfgdpjlbcnkfaaDoorAbs.oneC, Nat.reduceAdd, Nat.reduceLeDiff] <;> omega) | fail) only [↓DN, ↓reduceIte, UP, CGB, Int.reduceEq, Int.reduceLT, Int.reduceLE, Nat.reduceEqDiff, Nat.reduceAdd, Nat.reduceMul, Nat.reduceSub, Int.reduceToNat, Nat.reduceLeDiff, PF, isStop, isP, goInt, beq_self_eq_true, decide_true, decide_false, Int.toNat_natCast, Int.natCast_zero, nn_eq, nn_ne, hd, e0, e1, e5])
    | ((with_reducible refine CB_intro (fun ht => hcA ?_) (fun ht => hcB ?_)) <;> (first | (simp only [Bool.true_eq_false, Bool.false_eq_true] at ht; done) | ((try simp only [Bool.not_eq_true', Bool.not_eq_false'] at ht); (try simp only [ht]); (try simp only [HTN] at ht); (try (exfalso; omega)))))
    | ((with_reducible refine W_regionI ?_); simp only [List.append_eq, List.cons_append, List.nil_append])
    | (with_reducible refine O_splitG fun cA cB hcA hcB => ?_)
    | (exact hQ))
end
end Go.Proofs.YtdfgdpjlbcnkfaaDoor.Q
namespace Go.Proofs.YtdfgdpjlbcnkfaaDoor.Q
open Go Go.Proofs.YtdfgdpjlbcnkfaaDoorAbs Go.Proofs Go.RowKit
set_option linter.unusedVariables false
set_option linter.unusedSimpArgs false
theorem mixed : Tryd.prog.follows .mixedOrders = true := by kernel_rfl
open Classical in
noncomputable def pWorks (_ : Nat) (xs : Array Value) (S : St) : Option Value := if xs = #[] ∧ S.get 6 = some ⟨tab64, 0, false, 0⟩ then some (.bool true) else none
theorem isTrue_some {r : Option (Value × St)} (h : isTrue r = true) : ∃ S, r = some (.bool true, S) := by
  unfold isTrue at h
  split at h
  · exact ⟨_, rfl⟩
  · cases h
theorem gl64_ok {S : St} (h6 : S.get 6 = some ⟨tab64, 0, false, 0⟩) : ∀ g cs, g ≤ Tryd.prog.globals.size → gl64 g = some cs → cs.all leaf = true ∧ ∃ el m, S.get g = some ⟨cs, el, false, m⟩ := by
  intro g cs _ hg
  unfold gl64 at hg
  split at hg
  · cases hg
    exact ⟨by decide, _, _, h6⟩
  · cases hg
theorem still_works (k : Nat) : Still Tryd.prog 14 (pWorks k) := ⟨fun xs S v h ρ w ys hrel hxs => by
  unfold pWorks at h
  split at h
  case isFalse => cases h
  rename_i hc
  obtain ⟨rfl, h6⟩ := hc
  cases h
  obtain ⟨S1, hk⟩ := isTrue_some works_run
  have hy : ys = #[] := by
    have := hxs.1
    simp at this
    exact Array.eq_empty_of_size_eq_zero this.symm
  subst hy
  refine (calls_of_run (u := .bool true) prims0_sim mixed rfl (by rw [nglob]; exact hk) hrel (gl64_ok h6)).mono ?_
  rintro e w' ⟨rfl, hb⟩
  exact ⟨_, rfl, VR.scalar rfl, hb⟩⟩
theorem nums8_u8v : ∀ l : List UInt8, nums8 (u8v l) = some (l.map fun b => (b.toNat : Int))
  | [] => rfl
  | b :: l => by
    show (nums8 (u8v l)).map _ = _
    rw [nums8_u8v l]
    rfl
theorem bytes_u8v (l : List UInt8) : Lib.bytesOf (l.map fun b => (b.toNat : Int)) = l := by
  simp [Lib.bytesOf, Function.comp_def]
theorem u8v_leaf (l : List UInt8) : (u8v l).all leaf = true := by
  rw [List.all_eq_true]; intro x hx; simp only [u8v, List.mem_map] at hx; obtain ⟨_, _, rfl⟩ := hx; rfl
end Go.Proofs.YtdfgdpjlbcnkfaaDoor.Q
namespace Go.Proofs.YtdfgdpjlbcnkfaaDoor.Q
open Go Go.Proofs.YtdfgdpjlbcnkfaaDoorAbs Go.Proofs
set_option linter.unusedVariables false
set_option linter.unusedSimpArgs false
set_option maxRecDepth 100000
set_option maxHeartbeats 4000000
attribute [local irreducible] Go.Proofs.YtdfgdpjlbcnkfaaDoorAbs.O Go.Proofs.YtdfgdpjlbcnkfaaDoorAbs.W Go.Proofs.YtdfgdpjlbcnkfaaDoorAbs.C Go.Proofs.YtdfgdpjlbcnkfaaDoorAbs.OK Go.Proofs.YtdfgdpjlbcnkfaaDoorAbs.OKF Go.Proofs.YtdfgdpjlbcnkfaaDoorAbs.OKT Go.Proofs.YtdfgdpjlbcnkfaaDoorAbs.then_ Go.Proofs.YtdfgdpjlbcnkfaaDoorAbs.inBlock_ Go.Proofs.YtdfgdpjlbcnkfaaDoorAbs.bodyQ Go.Proofs.YtdfgdpjlbcnkfaaDoorAbs.Cont
section
variable {I : Prims} {S S0 : St} {Q : Value → St → Prop} {e : Env}
theorem cback_walk (h : HW I) (hg : HGrow I) (ht : HTZ I) (h6 : S.get 6 = some ⟨tab64, 0, false, 0⟩) (h6n : 6 < S.next) {pb lb : Nat} {vs : List Value} {ps : List (List UInt8)} {vl : Value} {l : List Fld} {bh : List UInt8} (hlen : vs.length = ps.length) (hn : ps.length ≤ 1048576)
    (hpb : S.get pb = some ⟨vs, 0, false, 0⟩) (hpbn : pb < S.next) (hvs : ∀ (i : Nat) (v : Value), vs[i]? = some v → ∃ xs : List UInt8, ps[i]? = some xs ∧ xs.length ≤ 1048576 ∧ Sl S v xs)
    (hF : FR S vl lb l) (hln : l.length ≤ 1048576) (hsz : ∀ f ∈ l, f.1.size ≤ 1048576 ∧ f.2.size ≤ 1048576) (hbh : bh.length ≤ 1048576)
    (hQ : ∀ S', Q (.bool true) S') : C Tryd.prog I 8 #[.slice (some ⟨pb, 0, some 0⟩) ps.length (UNK + 1), vl, .string ⟨bh.toArray⟩] S Q := by
  refine C_body (rs := [.tmp 6]) (h.no 8 (by decide)) Tryd.func8 rfl rfl ok8 ?_
  obtain ⟨u22, sz5, u5, u9, u3, u29, u34, u33, sz3, u4, u41, sz66, u46, sz28, u47, u52, sz22, sz62, sz24, sz59, u59, sz60, u60, sz41, sz58, u58, sz73, sz34, sz4, sz9, sz83, u88, sz86, u112, sz118, u118, u2, sz126, u126, u21, sz130, u130, u139, u140, sz141, u141, u145, u148, sz147, u154, u155⟩ := UF
  have ki := ki24
  repeat' (first
    | (with_reducible first | refine W_pushC fun K hK => ?_ | refine W_blockI ?_ | refine W_scopeI ?_ | refine W_labelI ?_ | refine W_skipI ?_ | refine W_retI ?_ | refine W_exitI ?_ | refine then_normalI ?_ | refine then_retI ?_ | refine then_exitI ?_ | refine inBlock_normalI ?_ | refine inBlock_retI ?_ | refine inBlock_exitI ?_ | refine inBlock_exitN (by decide) ?_)
    | ((with_reducible first | refine bodyQ_normal0 ?_ | refine bodyQ_normal1 ?_ | refine bodyQ_normal2 ?_ | refine bodyQ_normal3 ?_ | refine bodyQ_normal4 ?_ | refine bodyQ_ret0 ?_ | refine bodyQ_ret1 ?_ | refine bodyQ_ret2 ?_ | refine bodyQ_ret3 ?_ | refine bodyQ_ret4 ?_); (try simp only [EVB, Nat.reduceEqDiff, reduceIte]))
    | ((with_reducible show C _ _ _ _ _ _); first | (refine Last_C h.toHI hg hF hln hsz (fun k S1 k1 => ?_) (fun hl64 hok hls lv S1 hA1 => ?_)))
    | (with_reducible refine Cont.use (by assumption) ?_)
    | (with_reducible first | refine hcA ?_ | refine hcB ?_)
    | ((with_reducible first | refine W_condG fun cA cB hcA hcB => ?_ | refine W_regionI ?_ | show O _ _ _ _ _ _ _ _ | show OK _ _ _ _ _ _ _ _ _ | show OKF _ _ _ _ _ _ _ _ _ _ | show OKT _ _ _ _ _ _ _ _ _ _ _ _ | show _ ∧ _ | show CG _ _ _ | show CB _ _ _); simp (disch := first | ((with_reducible show isStop _ = false); rfl) | ((with_reducible show isP _ = true); rfl) | ((with_reducible show (isStop _ || isP _) = false); rfl) | assumption | (simp only [GSB, Nat.reduceEqDiff, reduceIte]; done) | omega | (with_reducible decide) | (simp only [DSB, Go.Proofs.YtdfgdpjlbcnkfaaDoorAbs.oneC, Nat.reduceAdd, Nat.reduceLeDiff] <;> omega) | fail) only [↓DN, ↓reduceIte, UP, CGB, Int.reduceEq, Int.reduceLT, Int.reduceLE, Nat.reduceEqDiff, Nat.reduceAdd, Nat.reduceMul, Nat.reduceSub, Int.reduceToNat, Nat.reduceLeDiff, PF, isStop, isP, goInt, beq_self_eq_true, decide_true, decide_false, Int.toNat_natCast, Int.natCast_zero, nn_eq, nn_ne])
    | ((with_reducible refine CB_intro (fun ht => hcA ?_) (fun ht => hcB ?_)) <;> (first | (simp only [Bool.true_eq_false, Bool.false_eq_true] at ht; done) | ((try simp only [Bool.not_eq_true', Bool.not_eq_false'] at ht); (try simp only [ht]); (try simp only [HTN] at ht); (try (exfalso; omega)))))
    | ((with_reducible refine W_regionI ?_); simp only [List.append_eq, List.cons_append, List.nil_append])
    | (with_reducible refine O_splitG fun cA cB hcA hcB => ?_))
  · have h61 := k1.get h6n h6
    repeat' (first
    | (with_reducible first | refine W_pushC fun K hK => ?_ | refine W_blockI ?_ | refine W_scopeI ?_ | refine W_labelI ?_ | refine W_skipI ?_ | refine W_retI ?_ | refine W_exitI ?_ | refine then_normalI ?_ | refine then_retI ?_ | refine then_exitI ?_ | refine inBlock_normalI ?_ | refine inBlock_retI ?_ | refine inBlock_exitI ?_ | refine inBlock_exitN (by decide) ?_)
    | ((with_reducible first | refine bodyQ_normal0 ?_ | refine bodyQ_normal1 ?_ | refine bodyQ_normal2 ?_ | refine bodyQ_normal3 ?_ | refine bodyQ_normal4 ?_ | refine bodyQ_ret0 ?_ | refine bodyQ_ret1 ?_ | refine bodyQ_ret2 ?_ | refine bodyQ_ret3 ?_ | refine bodyQ_ret4 ?_); (try simp only [EVB, Nat.reduceEqDiff, reduceIte]))
    | ((with_reducible show C _ _ _ _ _ _); first | (refine h.works _ _ h61 ?_))
    | (with_reducible refine Cont.use (by assumption) ?_)
    | (with_reducible first | refine hcA ?_ | refine hcB ?_)
    | ((with_reducible first | refine W_condG fun cA cB hcA hcB => ?_ | refine W_regionI ?_ | show O _ _ _ _ _ _ _ _ | show OK _ _ _ _ _ _ _ _ _ | show OKF _ _ _ _ _ _ _ _ _ _ | show OKT _ _ _ _ _ _ _ _ _ _ _ _ | show _ ∧ _ | show CG _ _ _ | show CB _ _ _); simp (disch := first | ((with_reducible show isStop _ = false); rfl) | ((with_reducible show isP _ = true); rfl) | ((with_reducible show (isStop _ || isP _) = false); rfl) | assumption | (simp only [GSB, Nat.reduceEqDiff, reduceIte]; done) | omega | (with_reducible decide) | (simp only [DSB, Go.Proofs.YtdfgdpjlbcnkfaaDoorAbs.oneC, Nat.reduceAdd, Nat.reduceLeDiff] <;> omega) | fail) only [↓DN, ↓reduceIte, UP, CGB, Int.reduceEq, Int.reduceLT, Int.reduceLE, Nat.reduceEqDiff, Nat.reduceAdd, Nat.reduceMul, Nat.reduceSub, Int.reduceToNat, Nat.reduceLeDiff, PF, isStop, isP, goInt, beq_self_eq_true, decide_true, decide_false, Int.toNat_natCast, Int.natCast_zero, nn_eq, nn_ne])
    | ((with_reducible refine CB_intro (fun ht => hcA ?_) (fun ht => hcB ?_)) <;> (first | (simp only [Bool.true_eq_false, Bool.false_eq_true] at ht; done) | ((try simp only [Bool.not_eq_true', Bool.not_eq_false'] at ht); (try simp only [ht]); (try simp only [HTN] at ht); (try (exfalso; omega)))))
    | ((with_reducible refine W_regionI ?_); simp only [List.append_eq, List.cons_append, List.nil_append])
    | (with_reducible refine O_splitG fun cA cB hcA hcB => ?_)
    | (exact hQ _))
  have h61 := hA1.kept.get h6n h6
  obtain ⟨la, lc, elv⟩ := own_slice hA1.own
  repeat' (first
    | (with_reducible first | refine W_pushC fun K hK => ?_ | refine W_blockI ?_ | refine W_scopeI ?_ | refine W_labelI ?_ | refine W_skipI ?_ | refine W_retI ?_ | refine W_exitI ?_ | refine then_normalI ?_ | refine then_retI ?_ | refine then_exitI ?_ | refine inBlock_normalI ?_ | refine inBlock_retI ?_ | refine inBlock_exitI ?_ | refine inBlock_exitN (by decide) ?_)
    | ((with_reducible first | refine bodyQ_normal0 ?_ | refine bodyQ_normal1 ?_ | refine bodyQ_normal2 ?_ | refine bodyQ_normal3 ?_ | refine bodyQ_normal4 ?_ | refine bodyQ_ret0 ?_ | refine bodyQ_ret1 ?_ | refine bodyQ_ret2 ?_ | refine bodyQ_ret3 ?_ | refine bodyQ_ret4 ?_); (try simp only [EVB, Nat.reduceEqDiff, reduceIte]))
    | (with_reducible refine Cont.use (by assumption) ?_)
    | (with_reducible first | refine hcA ?_ | refine hcB ?_)
    | ((with_reducible first | refine W_condG fun cA cB hcA hcB => ?_ | refine W_regionI ?_ | show O _ _ _ _ _ _ _ _ | show OK _ _ _ _ _ _ _ _ _ | show OKF _ _ _ _ _ _ _ _ _ _ | show OKT _ _ _ _ _ _ _ _ _ _ _ _ | show _ ∧ _ | show CG _ _ _ | show CB _ _ _); simp (disch := first | ((with_reducible show isStop _ = false); rfl) | ((with_reducible show isP _ = true); rfl) | ((with_reducible show (isStop _ || isP _) = false); rfl) | assumption | (simp only [GSB, Nat.reduceEqDiff, reduceIte]; done) | omega | (with_reducible decide) | (simp only [DSB, Go.Proofs.YtdfgdpjlbcnkfaaDoorAbs.oneC, Nat.reduceAdd, Nat.reduceLeDiff] <;> omega) | fail) only [↓DN, ↓reduceIte, UP, CGB, Int.reduceEq, Int.reduceLT, Int.reduceLE, Nat.reduceEqDiff, Nat.reduceAdd, Nat.reduceMul, Nat.reduceSub, Int.reduceToNat, Nat.reduceLeDiff, PF, isStop, isP, goInt, beq_self_eq_true, decide_true, decide_false, Int.toNat_natCast, Int.natCast_zero, nn_eq, nn_ne, elv])
    | ((with_reducible refine CB_intro (fun ht => hcA ?_) (fun ht => hcB ?_)) <;> (first | (simp only [Bool.true_eq_false, Bool.false_eq_true] at ht; done) | ((try simp only [Bool.not_eq_true', Bool.not_eq_false'] at ht); (try simp only [ht]); (try simp only [HTN] at ht); (try (exfalso; omega)))))
    | ((with_reducible refine W_regionI ?_); simp only [List.append_eq, List.cons_append, List.nil_append])
    | (with_reducible refine O_splitG fun cA cB hcA hcB => ?_))
  subst elv
  have kS1 := hA1.kept
  have hF1 := hF.kept kS1
  have hFv := hF.val
  refine W_loop (fun k e S2 => ∃ (i : Nat) (vt va : Value), e.get 0 = .slice (some ⟨pb, 0, some 0⟩) ps.length (UNK + 1) ∧ e.get 1 = vl ∧ e.get 2 = .string ⟨bh.toArray⟩ ∧ e.get 7 = .slice la (lastB l).length lc ∧ e.get 9 = vt ∧ e.get 10 = va ∧ e.get 11 = .int .i64 i ∧ i ≤ 50 ∧ i ≤ ps.length ∧ k = 50 - i ∧ Two S1 S2 vt va (partsB (ps.take i)) (ps.take i).flatten ∧ (partsB (ps.take i)).length ≤ i * 5019 ∧ (ps.take i).flatten.length ≤ i * 5000 ∧ ∀ b ∈ ps.take i, b.length ≤ 5000) 50 ⟨0, .slice none 0 0, .slice none 0 0, by simp only [EVB, Nat.reduceEqDiff, reduceIte], by simp only [EVB, Nat.reduceEqDiff, reduceIte], by simp only [EVB, Nat.reduceEqDiff, reduceIte], by simp only [EVB, Nat.reduceEqDiff, reduceIte], by simp only [EVB, Nat.reduceEqDiff, reduceIte], by simp only [EVB, Nat.reduceEqDiff, reduceIte], by simp only [EVB, Nat.reduceEqDiff, reduceIte]; rfl, by omega, Nat.zero_le _, rfl, ⟨Acc.nil _, Acc.nil _, fun i q => by cases q⟩, by simp [partsB], by simp, by simp⟩ ?_
  rintro k e S2 ⟨i, vt, va, e0, e1, e2, e7, e9, e10, e11, hi50, hip, hk', hT, hlt, hla, hall⟩
  have k2 := hT.t.kept
  have h62 := k2.get (Nat.lt_of_lt_of_le h6n kS1.1) h61
  have h6n2 : 6 < S2.next := Nat.lt_of_lt_of_le (Nat.lt_of_lt_of_le h6n kS1.1) k2.1
  by_cases hgo : i < ps.length ∧ i < 50
  · have d1 : decide ((i : Int) < (ps.length : Int)) = true := decide_eq_true (by omega)
    have d2 : decide ((i : Int) < 50) = true := decide_eq_true (by omega)
    have wi : IntKind.i64.wrap ((i : Int) + 1) = ((i + 1 : Nat) : Int) := by rw [Go.Proofs.YtdfgdpjlbcnkfaaDoorAbs.wp64 (by omega) (by omega)]; omega
    obtain ⟨v, hvi⟩ : ∃ v, vs[i]? = some v := ⟨vs[i]'(by omega), by simp⟩
    obtain ⟨xs, hxi, hxl, hxS⟩ := hvs i v hvi
    have hpc : ∀ S4, Kept S S4 none → Go.Proofs.YtdfgdpjlbcnkfaaDoorAbs.cellAt (S4.get pb) i 0 = some v := fun S4 k4 => by
      rw [k4.2 pb hpbn (by simp), hpb, Go.Proofs.YtdfgdpjlbcnkfaaDoorAbs.cellAt_their]
      exact hvi
    have hpc2 := hpc S2 (kS1.trans k2)
    obtain ⟨xa, xc, ev⟩ := hxS.len
    subst ev
    by_cases hbig : 5000 < xs.length
    · have d3 : decide ((5000 : Int) < (xs.length : Int)) = true := decide_eq_true (by omega)
      repeat' (first
    | (with_reducible first | refine W_pushC fun K hK => ?_ | refine W_blockI ?_ | refine W_scopeI ?_ | refine W_labelI ?_ | refine W_skipI ?_ | refine W_retI ?_ | refine W_exitI ?_ | refine then_normalI ?_ | refine then_retI ?_ | refine then_exitI ?_ | refine inBlock_normalI ?_ | refine inBlock_retI ?_ | refine inBlock_exitI ?_ | refine inBlock_exitN (by decide) ?_)
    | ((with_reducible first | refine bodyQ_normal0 ?_ | refine bodyQ_normal1 ?_ | refine bodyQ_normal2 ?_ | refine bodyQ_normal3 ?_ | refine bodyQ_normal4 ?_ | refine bodyQ_ret0 ?_ | refine bodyQ_ret1 ?_ | refine bodyQ_ret2 ?_ | refine bodyQ_ret3 ?_ | refine bodyQ_ret4 ?_); (try simp only [EVB, Nat.reduceEqDiff, reduceIte]))
    | ((with_reducible show C _ _ _ _ _ _); first | (refine h.works _ _ h62 ?_))
    | (with_reducible refine Cont.use (by assumption) ?_)
    | (with_reducible first | refine hcA ?_ | refine hcB ?_)
    | ((with_reducible first | refine W_condG fun cA cB hcA hcB => ?_ | refine W_regionI ?_ | show O _ _ _ _ _ _ _ _ | show OK _ _ _ _ _ _ _ _ _ | show OKF _ _ _ _ _ _ _ _ _ _ | show OKT _ _ _ _ _ _ _ _ _ _ _ _ | show _ ∧ _ | show CG _ _ _ | show CB _ _ _); simp (disch := first | ((with_reducible show isStop _ = false); rfl) | ((with_reducible show isP _ = true); rfl) | ((with_reducible show (isStop _ || isP _) = false); rfl) | assumption | (simp only [GSB, Nat.reduceEqDiff, reduceIte]; done) | omega | (with_reducible decide) | (simp only [DSB, Go.Proofs.YtdfgdpjlbcnkfaaDoorAbs.oneC, Nat.reduceAdd, Nat.reduceLeDiff] <;> omega) | fail) only [↓DN, ↓reduceIte, UP, CGB, Int.reduceEq, Int.reduceLT, Int.reduceLE, Nat.reduceEqDiff, Nat.reduceAdd, Nat.reduceMul, Nat.reduceSub, Int.reduceToNat, Nat.reduceLeDiff, PF, isStop, isP, goInt, beq_self_eq_true, decide_true, decide_false, Int.toNat_natCast, Int.natCast_zero, nn_eq, nn_ne, e0, e1, e2, e7, e9, e10, e11, d1, d2, d3, hpc2])
    | ((with_reducible refine CB_intro (fun ht => hcA ?_) (fun ht => hcB ?_)) <;> (first | (simp only [Bool.true_eq_false, Bool.false_eq_true] at ht; done) | ((try simp only [Bool.not_eq_true', Bool.not_eq_false'] at ht); (try simp only [ht]); (try simp only [HTN] at ht); (try (exfalso; omega)))))
    | ((with_reducible refine W_regionI ?_); simp only [List.append_eq, List.cons_append, List.nil_append])
    | (with_reducible refine O_splitG fun cA cB hcA hcB => ?_)
    | (exact hQ _))
    · have d3 : decide ((5000 : Int) < (xs.length : Int)) = false := decide_eq_false (by omega)
      repeat' (first
    | (with_reducible first | refine W_pushC fun K hK => ?_ | refine W_blockI ?_ | refine W_scopeI ?_ | refine W_labelI ?_ | refine W_skipI ?_ | refine W_retI ?_ | refine W_exitI ?_ | refine then_normalI ?_ | refine then_retI ?_ | refine then_exitI ?_ | refine inBlock_normalI ?_ | refine inBlock_retI ?_ | refine inBlock_exitI ?_ | refine inBlock_exitN (by decide) ?_)
    | ((with_reducible first | refine bodyQ_normal0 ?_ | refine bodyQ_normal1 ?_ | refine bodyQ_normal2 ?_ | refine bodyQ_normal3 ?_ | refine bodyQ_normal4 ?_ | refine bodyQ_ret0 ?_ | refine bodyQ_ret1 ?_ | refine bodyQ_ret2 ?_ | refine bodyQ_ret3 ?_ | refine bodyQ_ret4 ?_); (try simp only [EVB, Nat.reduceEqDiff, reduceIte]))
    | ((with_reducible show C _ _ _ _ _ _); first | (refine twin_C h.toHI (sl_kept hxS (kS1.trans k2) (by simp)) (by omega) (fun v3 S3 hO3 k3 hn3 => ?_)) | (refine Enc_C h.toHI ht (k3.get h6n2 h62) (Nat.lt_of_lt_of_le h6n2 k3.1) (sl_own hO3) (by omega) (fun v4 S4 hA4 => ?_)))
    | (with_reducible refine Cont.use (by assumption) ?_)
    | (with_reducible first | refine hcA ?_ | refine hcB ?_)
    | ((with_reducible first | refine W_condG fun cA cB hcA hcB => ?_ | refine W_regionI ?_ | show O _ _ _ _ _ _ _ _ | show OK _ _ _ _ _ _ _ _ _ | show OKF _ _ _ _ _ _ _ _ _ _ | show OKT _ _ _ _ _ _ _ _ _ _ _ _ | show _ ∧ _ | show CG _ _ _ | show CB _ _ _); simp (disch := first | ((with_reducible show isStop _ = false); rfl) | ((with_reducible show isP _ = true); rfl) | ((with_reducible show (isStop _ || isP _) = false); rfl) | assumption | (simp only [GSB, Nat.reduceEqDiff, reduceIte]; done) | omega | (with_reducible decide) | (simp only [DSB, Go.Proofs.YtdfgdpjlbcnkfaaDoorAbs.oneC, Nat.reduceAdd, Nat.reduceLeDiff] <;> omega) | fail) only [↓DN, ↓reduceIte, UP, CGB, Int.reduceEq, Int.reduceLT, Int.reduceLE, Nat.reduceEqDiff, Nat.reduceAdd, Nat.reduceMul, Nat.reduceSub, Int.reduceToNat, Nat.reduceLeDiff, PF, isStop, isP, goInt, beq_self_eq_true, decide_true, decide_false, Int.toNat_natCast, Int.natCast_zero, nn_eq, nn_ne, e0, e1, e2, e7, e9, e10, e11, d1, d2, d3, hpc2])
    | ((with_reducible refine CB_intro (fun ht => hcA ?_) (fun ht => hcB ?_)) <;> (first | (simp only [Bool.true_eq_false, Bool.false_eq_true] at ht; done) | ((try simp only [Bool.not_eq_true', Bool.not_eq_false'] at ht); (try simp only [ht]); (try simp only [HTN] at ht); (try (exfalso; omega)))))
    | ((with_reducible refine W_regionI ?_); simp only [List.append_eq, List.cons_append, List.nil_append])
    | (with_reducible refine O_splitG fun cA cB hcA hcB => ?_))
      have hT4 := (hT.keep k3).keep hA4.kept
      have hel := enc_len (b := xs) (by omega)
      refine O_twoB (S0 := S1) (va := va) (t := partsB (ps.take i)) (a := (ps.take i).flatten) (c := encB xs) (by simp only [EVB, Nat.reduceEqDiff, reduceIte, e9]; exact hT4) (by simp only [EVB, Nat.reduceEqDiff, reduceIte]; exact sl_own hA4.own) (by omega) fun v5 S5 hT5 => ?_
      have hpc5 := hpc S5 (kS1.trans hT5.t.kept)
      repeat' (first
    | (with_reducible first | refine W_pushC fun K hK => ?_ | refine W_blockI ?_ | refine W_scopeI ?_ | refine W_labelI ?_ | refine W_skipI ?_ | refine W_retI ?_ | refine W_exitI ?_ | refine then_normalI ?_ | refine then_retI ?_ | refine then_exitI ?_ | refine inBlock_normalI ?_ | refine inBlock_retI ?_ | refine inBlock_exitI ?_ | refine inBlock_exitN (by decide) ?_)
    | ((with_reducible first | refine bodyQ_normal0 ?_ | refine bodyQ_normal1 ?_ | refine bodyQ_normal2 ?_ | refine bodyQ_normal3 ?_ | refine bodyQ_normal4 ?_ | refine bodyQ_ret0 ?_ | refine bodyQ_ret1 ?_ | refine bodyQ_ret2 ?_ | refine bodyQ_ret3 ?_ | refine bodyQ_ret4 ?_); (try simp only [EVB, Nat.reduceEqDiff, reduceIte]))
    | (with_reducible refine Cont.use (by assumption) ?_)
    | (with_reducible first | refine hcA ?_ | refine hcB ?_)
    | ((with_reducible first | refine W_condG fun cA cB hcA hcB => ?_ | refine W_regionI ?_ | show O _ _ _ _ _ _ _ _ | show OK _ _ _ _ _ _ _ _ _ | show OKF _ _ _ _ _ _ _ _ _ _ | show OKT _ _ _ _ _ _ _ _ _ _ _ _ | show _ ∧ _ | show CG _ _ _ | show CB _ _ _); simp (disch := first | ((with_reducible show isStop _ = false); rfl) | ((with_reducible show isP _ = true); rfl) | ((with_reducible show (isStop _ || isP _) = false); rfl) | assumption | (simp only [GSB, Nat.reduceEqDiff, reduceIte]; done) | omega | (with_reducible decide) | (simp only [DSB, Go.Proofs.YtdfgdpjlbcnkfaaDoorAbs.oneC, Nat.reduceAdd, Nat.reduceLeDiff] <;> omega) | fail) only [↓DN, ↓reduceIte, UP, CGB, Int.reduceEq, Int.reduceLT, Int.reduceLE, Nat.reduceEqDiff, Nat.reduceAdd, Nat.reduceMul, Nat.reduceSub, Int.reduceToNat, Nat.reduceLeDiff, PF, isStop, isP, goInt, beq_self_eq_true, decide_true, decide_false, Int.toNat_natCast, Int.natCast_zero, nn_eq, nn_ne, e0, e1, e2, e7, e9, e10, e11, hpc5])
    | ((with_reducible refine CB_intro (fun ht => hcA ?_) (fun ht => hcB ?_)) <;> (first | (simp only [Bool.true_eq_false, Bool.false_eq_true] at ht; done) | ((try simp only [Bool.not_eq_true', Bool.not_eq_false'] at ht); (try simp only [ht]); (try simp only [HTN] at ht); (try (exfalso; omega)))))
    | ((with_reducible refine W_regionI ?_); simp only [List.append_eq, List.cons_append, List.nil_append])
    | (with_reducible refine O_splitG fun cA cB hcA hcB => ?_))
      refine O_twoB (S0 := S1) (va := v5) (t := (ps.take i).flatten) (a := partsB (ps.take i) ++ encB xs) (c := xs) (by simp only [EVB, Nat.reduceEqDiff, reduceIte, e10]; exact hT5.symm) (by simp only [EVB, Nat.reduceEqDiff, reduceIte]; exact sl_kept hxS (kS1.trans hT5.t.kept) (by simp)) (by omega) fun v6 S6 hT6 => ?_
      have hft := flat_take hxi
      have hpt := parts_take hxi
      have hall2 : ∀ b ∈ ps.take (i + 1), b.length ≤ 5000 := fun b hb => by
        rw [List.take_add_one, hxi, List.mem_append] at hb
        rcases hb with hb | hb
        · exact hall b hb
        · simp at hb; rw [hb]; omega
      have l1 : (partsB (ps.take (i + 1))).length ≤ (i + 1) * 5019 := by rw [hpt, List.length_append]; omega
      have l2 : (ps.take (i + 1)).flatten.length ≤ (i + 1) * 5000 := by rw [hft, List.length_append]; omega
      repeat' (first
    | (with_reducible first | refine W_pushC fun K hK => ?_ | refine W_blockI ?_ | refine W_scopeI ?_ | refine W_labelI ?_ | refine W_skipI ?_ | refine W_retI ?_ | refine W_exitI ?_ | refine then_normalI ?_ | refine then_retI ?_ | refine then_exitI ?_ | refine inBlock_normalI ?_ | refine inBlock_retI ?_ | refine inBlock_exitI ?_ | refine inBlock_exitN (by decide) ?_)
    | ((with_reducible first | refine bodyQ_normal0 ?_ | refine bodyQ_normal1 ?_ | refine bodyQ_normal2 ?_ | refine bodyQ_normal3 ?_ | refine bodyQ_normal4 ?_ | refine bodyQ_ret0 ?_ | refine bodyQ_ret1 ?_ | refine bodyQ_ret2 ?_ | refine bodyQ_ret3 ?_ | refine bodyQ_ret4 ?_); (try simp only [EVB, Nat.reduceEqDiff, reduceIte]))
    | (with_reducible refine Cont.use (by assumption) ?_)
    | (with_reducible first | refine hcA ?_ | refine hcB ?_)
    | ((with_reducible first | refine W_condG fun cA cB hcA hcB => ?_ | refine W_regionI ?_ | show O _ _ _ _ _ _ _ _ | show OK _ _ _ _ _ _ _ _ _ | show OKF _ _ _ _ _ _ _ _ _ _ | show OKT _ _ _ _ _ _ _ _ _ _ _ _ | show _ ∧ _ | show CG _ _ _ | show CB _ _ _); simp (disch := first | ((with_reducible show isStop _ = false); rfl) | ((with_reducible show isP _ = true); rfl) | ((with_reducible show (isStop _ || isP _) = false); rfl) | assumption | (simp only [GSB, Nat.reduceEqDiff, reduceIte]; done) | omega | (with_reducible decide) | (simp only [DSB, Go.Proofs.YtdfgdpjlbcnkfaaDoorAbs.oneC, Nat.reduceAdd, Nat.reduceLeDiff] <;> omega) | fail) only [↓DN, ↓reduceIte, UP, CGB, Int.reduceEq, Int.reduceLT, Int.reduceLE, Nat.reduceEqDiff, Nat.reduceAdd, Nat.reduceMul, Nat.reduceSub, Int.reduceToNat, Nat.reduceLeDiff, PF, isStop, isP, goInt, beq_self_eq_true, decide_true, decide_false, Int.toNat_natCast, Int.natCast_zero, nn_eq, nn_ne, e0, e1, e2, e7, e11, wi])
    | ((with_reducible refine CB_intro (fun ht => hcA ?_) (fun ht => hcB ?_)) <;> (first | (simp only [Bool.true_eq_false, Bool.false_eq_true] at ht; done) | ((try simp only [Bool.not_eq_true', Bool.not_eq_false'] at ht); (try simp only [ht]); (try simp only [HTN] at ht); (try (exfalso; omega)))))
    | ((with_reducible refine W_regionI ?_); simp only [List.append_eq, List.cons_append, List.nil_append])
    | (with_reducible refine O_splitG fun cA cB hcA hcB => ?_)
    | ((refine ⟨_, ?_, i + 1, v5, v6, by simp only [EVB, Nat.reduceEqDiff, reduceIte, e0], by simp only [EVB, Nat.reduceEqDiff, reduceIte, e1], by simp only [EVB, Nat.reduceEqDiff, reduceIte, e2], by simp only [EVB, Nat.reduceEqDiff, reduceIte, e7], by simp only [EVB, Nat.reduceEqDiff, reduceIte], by simp only [EVB, Nat.reduceEqDiff, reduceIte], by simp only [EVB, Nat.reduceEqDiff, reduceIte, wi], by omega, by omega, rfl, by rw [hft, hpt]; exact hT6.symm, l1, l2, hall2⟩; omega)))
  have hcase : decide ((i : Int) < (ps.length : Int)) = false ∨ (decide ((i : Int) < (ps.length : Int)) = true ∧ decide ((i : Int) < 50) = false) := by
    by_cases q : i < ps.length
    · exact .inr ⟨decide_eq_true (by omega), decide_eq_false (by omega)⟩
    · exact .inl (decide_eq_false (by omega))
  generalize hL : ps.take i = L at hT hlt hla hall
  have hlast : (lastB l).length ≤ 8197 := by simp [lastB]; omega
  rcases hcase with d1 | ⟨d1, d2⟩
  · repeat' (first
    | (with_reducible first | refine W_pushC fun K hK => ?_ | refine W_blockI ?_ | refine W_scopeI ?_ | refine W_labelI ?_ | refine W_skipI ?_ | refine W_retI ?_ | refine W_exitI ?_ | refine then_normalI ?_ | refine then_retI ?_ | refine then_exitI ?_ | refine inBlock_normalI ?_ | refine inBlock_retI ?_ | refine inBlock_exitI ?_ | refine inBlock_exitN (by decide) ?_)
    | ((with_reducible first | refine bodyQ_normal0 ?_ | refine bodyQ_normal1 ?_ | refine bodyQ_normal2 ?_ | refine bodyQ_normal3 ?_ | refine bodyQ_normal4 ?_ | refine bodyQ_ret0 ?_ | refine bodyQ_ret1 ?_ | refine bodyQ_ret2 ?_ | refine bodyQ_ret3 ?_ | refine bodyQ_ret4 ?_); (try simp only [EVB, Nat.reduceEqDiff, reduceIte]))
    | (with_reducible refine Cont.use (by assumption) ?_)
    | (with_reducible first | refine hcA ?_ | refine hcB ?_)
    | ((with_reducible first | refine W_condG fun cA cB hcA hcB => ?_ | refine W_regionI ?_ | show O _ _ _ _ _ _ _ _ | show OK _ _ _ _ _ _ _ _ _ | show OKF _ _ _ _ _ _ _ _ _ _ | show OKT _ _ _ _ _ _ _ _ _ _ _ _ | show _ ∧ _ | show CG _ _ _ | show CB _ _ _); simp (disch := first | ((with_reducible show isStop _ = false); rfl) | ((with_reducible show isP _ = true); rfl) | ((with_reducible show (isStop _ || isP _) = false); rfl) | assumption | (simp only [GSB, Nat.reduceEqDiff, reduceIte]; done) | omega | (with_reducible decide) | (simp only [DSB, Go.Proofs.YtdfgdpjlbcnkfaaDoorAbs.oneC, Nat.reduceAdd, Nat.reduceLeDiff] <;> omega) | fail) only [↓DN, ↓reduceIte, UP, CGB, Int.reduceEq, Int.reduceLT, Int.reduceLE, Nat.reduceEqDiff, Nat.reduceAdd, Nat.reduceMul, Nat.reduceSub, Int.reduceToNat, Nat.reduceLeDiff, PF, isStop, isP, goInt, beq_self_eq_true, decide_true, decide_false, Int.toNat_natCast, Int.natCast_zero, nn_eq, nn_ne, e0, e1, e2, e7, e9, e10, e11, d1])
    | ((with_reducible refine CB_intro (fun ht => hcA ?_) (fun ht => hcB ?_)) <;> (first | (simp only [Bool.true_eq_false, Bool.false_eq_true] at ht; done) | ((try simp only [Bool.not_eq_true', Bool.not_eq_false'] at ht); (try simp only [ht]); (try simp only [HTN] at ht); (try (exfalso; omega)))))
    | ((with_reducible refine W_regionI ?_); simp only [List.append_eq, List.cons_append, List.nil_append])
    | (with_reducible refine O_splitG fun cA cB hcA hcB => ?_))
    have hlv2 : Sl S2 (.slice la (lastB l).length lc) (lastB l) := sl_own (hA1.own.kept k2 (.inl rfl))
    refine O_twoB (S0 := S1) (va := va) (t := partsB L) (a := L.flatten) (c := lastB l) (by simp only [EVB, Nat.reduceEqDiff, reduceIte, e9]; exact hT) (by simp only [EVB, Nat.reduceEqDiff, reduceIte, e7]; exact hlv2) (by omega) fun v3 S3 hT3 => ?_
    obtain ⟨ta, tc, et⟩ := own_slice hT3.t.own
    obtain ⟨aa, ac, ea⟩ := own_slice hT3.a.own
    subst et ea
    repeat' (first
    | (with_reducible first | refine W_pushC fun K hK => ?_ | refine W_blockI ?_ | refine W_scopeI ?_ | refine W_labelI ?_ | refine W_skipI ?_ | refine W_retI ?_ | refine W_exitI ?_ | refine then_normalI ?_ | refine then_retI ?_ | refine then_exitI ?_ | refine inBlock_normalI ?_ | refine inBlock_retI ?_ | refine inBlock_exitI ?_ | refine inBlock_exitN (by decide) ?_)
    | ((with_reducible first | refine bodyQ_normal0 ?_ | refine bodyQ_normal1 ?_ | refine bodyQ_normal2 ?_ | refine bodyQ_normal3 ?_ | refine bodyQ_normal4 ?_ | refine bodyQ_ret0 ?_ | refine bodyQ_ret1 ?_ | refine bodyQ_ret2 ?_ | refine bodyQ_ret3 ?_ | refine bodyQ_ret4 ?_); (try simp only [EVB, Nat.reduceEqDiff, reduceIte]))
    | (with_reducible refine Cont.use (by assumption) ?_)
    | (with_reducible first | refine hcA ?_ | refine hcB ?_)
    | ((with_reducible first | refine W_condG fun cA cB hcA hcB => ?_ | refine W_regionI ?_ | show O _ _ _ _ _ _ _ _ | show OK _ _ _ _ _ _ _ _ _ | show OKF _ _ _ _ _ _ _ _ _ _ | show OKT _ _ _ _ _ _ _ _ _ _ _ _ | show _ ∧ _ | show CG _ _ _ | show CB _ _ _); simp (disch := first | ((with_reducible show isStop _ = false); rfl) | ((with_reducible show isP _ = true); rfl) | ((with_reducible show (isStop _ || isP _) = false); rfl) | assumption | (simp only [GSB, Nat.reduceEqDiff, reduceIte]; done) | omega | (with_reducible decide) | (simp only [DSB, Go.Proofs.YtdfgdpjlbcnkfaaDoorAbs.oneC, Nat.reduceAdd, Nat.reduceLeDiff] <;> omega) | fail) only [↓DN, ↓reduceIte, UP, CGB, Int.reduceEq, Int.reduceLT, Int.reduceLE, Nat.reduceEqDiff, Nat.reduceAdd, Nat.reduceMul, Nat.reduceSub, Int.reduceToNat, Nat.reduceLeDiff, PF, isStop, isP, goInt, beq_self_eq_true, decide_true, decide_false, Int.toNat_natCast, Int.natCast_zero, nn_eq, nn_ne, e0, e1, e2, e10])
    | ((with_reducible refine CB_intro (fun ht => hcA ?_) (fun ht => hcB ?_)) <;> (first | (simp only [Bool.true_eq_false, Bool.false_eq_true] at ht; done) | ((try simp only [Bool.not_eq_true', Bool.not_eq_false'] at ht); (try simp only [ht]); (try simp only [HTN] at ht); (try (exfalso; omega)))))
    | ((with_reducible refine W_regionI ?_); simp only [List.append_eq, List.cons_append, List.nil_append])
    | (with_reducible refine O_splitG fun cA cB hcA hcB => ?_))
    refine O_accX (S0 := S1) (a := partsB L ++ lastB l) (c := bh) (by simp only [EVB, Nat.reduceEqDiff, reduceIte]; exact hT3.t) (by simp [last_ne]) (by simp only [EVB, Nat.reduceEqDiff, reduceIte, e2]) (by rw [List.length_append]; omega) fun v4 S4 hA4 hS4 hK4 => ?_
    simp only [EVB, Nat.reduceEqDiff, reduceIte] at hS4 hK4
    have hOa4 : Own 5 1 S4 (.slice aa L.flatten.length ac) L.flatten.length (u8v L.flatten) := hT3.a.own.kept hK4 (by
      cases hq : blkOf (.slice ta (partsB L ++ lastB l).length tc) with
      | none => exact .inl rfl
      | some j => exact .inr (fun q => hT3.ne j hq q.symm))
    have kS4 : Kept S S4 none := kS1.trans hA4.kept
    have hl4 : ∀ j, blkOf v4 = some j → j < S4.next := fun j q => own_lt hA4.own q
    have hlt3 : ∀ j, blkOf (.slice ta (partsB L ++ lastB l).length tc) = some j → j < S4.next := fun j q => Nat.lt_of_lt_of_le (own_lt hT3.t.own q) hK4.1
    have hfl : L.flatten.length ≤ 1099511627776 := by omega
    obtain ⟨f1, f2, f3, f4, f5⟩ := back_feed L l bh hfl hok hls hl64
    repeat' (first
    | (with_reducible first | refine W_pushC fun K hK => ?_ | refine W_blockI ?_ | refine W_scopeI ?_ | refine W_labelI ?_ | refine W_skipI ?_ | refine W_retI ?_ | refine W_exitI ?_ | refine then_normalI ?_ | refine then_retI ?_ | refine then_exitI ?_ | refine inBlock_normalI ?_ | refine inBlock_retI ?_ | refine inBlock_exitI ?_ | refine inBlock_exitN (by decide) ?_)
    | ((with_reducible first | refine bodyQ_normal0 ?_ | refine bodyQ_normal1 ?_ | refine bodyQ_normal2 ?_ | refine bodyQ_normal3 ?_ | refine bodyQ_normal4 ?_ | refine bodyQ_ret0 ?_ | refine bodyQ_ret1 ?_ | refine bodyQ_ret2 ?_ | refine bodyQ_ret3 ?_ | refine bodyQ_ret4 ?_); (try simp only [EVB, Nat.reduceEqDiff, reduceIte]))
    | ((with_reducible show C _ _ _ _ _ _); first | ((refine CWhole_C h.toHI (most := ((L.flatten.length : Nat) : Int)) (by omega) (by omega) (sl_own hA4.own) hl4 (by simp only [List.length_append]; omega) (fun c hc => absurd hc (by rw [f3]; simp)) (fun _ => ⟨f4, fun ov tv S6 hOv hOt k46 hno => ?_⟩))))
    | (with_reducible refine Cont.use (by assumption) ?_)
    | (with_reducible first | refine hcA ?_ | refine hcB ?_)
    | ((with_reducible first | refine W_condG fun cA cB hcA hcB => ?_ | refine W_regionI ?_ | show O _ _ _ _ _ _ _ _ | show OK _ _ _ _ _ _ _ _ _ | show OKF _ _ _ _ _ _ _ _ _ _ | show OKT _ _ _ _ _ _ _ _ _ _ _ _ | show _ ∧ _ | show CG _ _ _ | show CB _ _ _); simp (disch := first | ((with_reducible show isStop _ = false); rfl) | ((with_reducible show isP _ = true); rfl) | ((with_reducible show (isStop _ || isP _) = false); rfl) | assumption | (simp only [GSB, Nat.reduceEqDiff, reduceIte]; done) | omega | (with_reducible decide) | (simp only [DSB, Go.Proofs.YtdfgdpjlbcnkfaaDoorAbs.oneC, Nat.reduceAdd, Nat.reduceLeDiff] <;> omega) | fail) only [↓DN, ↓reduceIte, UP, CGB, Int.reduceEq, Int.reduceLT, Int.reduceLE, Nat.reduceEqDiff, Nat.reduceAdd, Nat.reduceMul, Nat.reduceSub, Int.reduceToNat, Nat.reduceLeDiff, PF, isStop, isP, goInt, beq_self_eq_true, decide_true, decide_false, Int.toNat_natCast, Int.natCast_zero, nn_eq, nn_ne, e0, e1, e2, e10, f1])
    | ((with_reducible refine CB_intro (fun ht => hcA ?_) (fun ht => hcB ?_)) <;> (first | (simp only [Bool.true_eq_false, Bool.false_eq_true] at ht; done) | ((try simp only [Bool.not_eq_true', Bool.not_eq_false'] at ht); (try simp only [ht]); (try simp only [HTN] at ht); (try (exfalso; omega)))))
    | ((with_reducible refine W_regionI ?_); simp only [List.append_eq, List.cons_append, List.nil_append])
    | (with_reducible refine O_splitG fun cA cB hcA hcB => ?_))
    rw [f2] at hOv
    rw [f5] at hOt
    have kS6 := kS4.trans k46
    have h66 := kS6.get h6n h6
    have hF6 := hF.kept kS6
    have c1 := conv_any hOv
    have c2 := conv_any (hOa4.kept k46 (.inl rfl))
    have hS6 := sl_kept hS4 k46 (by simp)
    have hl6 : ∀ j, blkOf (.slice ta (partsB L ++ lastB l).length tc) = some j → j < S6.next := fun j q => Nat.lt_of_lt_of_le (hlt3 j q) k46.1
    have hs : ((⟨L.flatten.toArray⟩ : ByteArray).toList == (⟨L.flatten.toArray⟩ : ByteArray).toList) = true := beq_self_eq_true _
    by_cases h0 : L.flatten.length = 0
    · have d5 : ((L.flatten.length : Nat) : Int) = 0 := by omega
      repeat' (first
    | (with_reducible first | refine W_pushC fun K hK => ?_ | refine W_blockI ?_ | refine W_scopeI ?_ | refine W_labelI ?_ | refine W_skipI ?_ | refine W_retI ?_ | refine W_exitI ?_ | refine then_normalI ?_ | refine then_retI ?_ | refine then_exitI ?_ | refine inBlock_normalI ?_ | refine inBlock_retI ?_ | refine inBlock_exitI ?_ | refine inBlock_exitN (by decide) ?_)
    | ((with_reducible first | refine bodyQ_normal0 ?_ | refine bodyQ_normal1 ?_ | refine bodyQ_normal2 ?_ | refine bodyQ_normal3 ?_ | refine bodyQ_normal4 ?_ | refine bodyQ_ret0 ?_ | refine bodyQ_ret1 ?_ | refine bodyQ_ret2 ?_ | refine bodyQ_ret3 ?_ | refine bodyQ_ret4 ?_); (try simp only [EVB, Nat.reduceEqDiff, reduceIte]))
    | ((with_reducible show C _ _ _ _ _ _); first | (refine fieldsR_C h.toHI hOt hF6 (by omega) ?_) | (refine h.works _ _ h66 ?_))
    | (with_reducible refine Cont.use (by assumption) ?_)
    | (with_reducible first | refine hcA ?_ | refine hcB ?_)
    | ((with_reducible first | refine W_condG fun cA cB hcA hcB => ?_ | refine W_regionI ?_ | show O _ _ _ _ _ _ _ _ | show OK _ _ _ _ _ _ _ _ _ | show OKF _ _ _ _ _ _ _ _ _ _ | show OKT _ _ _ _ _ _ _ _ _ _ _ _ | show _ ∧ _ | show CG _ _ _ | show CB _ _ _); simp (disch := first | ((with_reducible show isStop _ = false); rfl) | ((with_reducible show isP _ = true); rfl) | ((with_reducible show (isStop _ || isP _) = false); rfl) | assumption | (simp only [GSB, Nat.reduceEqDiff, reduceIte]; done) | omega | (with_reducible decide) | (simp only [DSB, Go.Proofs.YtdfgdpjlbcnkfaaDoorAbs.oneC, Nat.reduceAdd, Nat.reduceLeDiff] <;> omega) | fail) only [↓DN, ↓reduceIte, UP, CGB, Int.reduceEq, Int.reduceLT, Int.reduceLE, Nat.reduceEqDiff, Nat.reduceAdd, Nat.reduceMul, Nat.reduceSub, Int.reduceToNat, Nat.reduceLeDiff, PF, isStop, isP, goInt, beq_self_eq_true, decide_true, decide_false, Int.toNat_natCast, Int.natCast_zero, nn_eq, nn_ne, e0, e1, e2, e10, c1, c2, hs, d5])
    | ((with_reducible refine CB_intro (fun ht => hcA ?_) (fun ht => hcB ?_)) <;> (first | (simp only [Bool.true_eq_false, Bool.false_eq_true] at ht; done) | ((try simp only [Bool.not_eq_true', Bool.not_eq_false'] at ht); (try simp only [ht]); (try simp only [HTN] at ht); (try (exfalso; omega)))))
    | ((with_reducible refine W_regionI ?_); simp only [List.append_eq, List.cons_append, List.nil_append])
    | (with_reducible refine O_splitG fun cA cB hcA hcB => ?_)
    | (exact hQ _))
    have d5 : decide (((L.flatten.length : Nat) : Int) = 0) = false := decide_eq_false (by omega)
    have ws : IntKind.i64.wrap (((L.flatten.length : Nat) : Int) - 1) = ((L.flatten.length : Nat) : Int) - 1 := by rw [Go.Proofs.YtdfgdpjlbcnkfaaDoorAbs.wp64 (by omega) (by omega)]
    have ho := over_feed (most := ((L.flatten.length : Nat) : Int) - 1) (by omega) L 0 (lastB l) (Int.le_refl _) (by omega) (by omega) hall
    have ho2 : (feedF (CR.fresh [] [] (((L.flatten.length : Nat) : Int) - 1)) (partsB L ++ lastB l)).2.2.err = some 33 := ho
    repeat' (first
    | (with_reducible first | refine W_pushC fun K hK => ?_ | refine W_blockI ?_ | refine W_scopeI ?_ | refine W_labelI ?_ | refine W_skipI ?_ | refine W_retI ?_ | refine W_exitI ?_ | refine then_normalI ?_ | refine then_retI ?_ | refine then_exitI ?_ | refine inBlock_normalI ?_ | refine inBlock_retI ?_ | refine inBlock_exitI ?_ | refine inBlock_exitN (by decide) ?_)
    | ((with_reducible first | refine bodyQ_normal0 ?_ | refine bodyQ_normal1 ?_ | refine bodyQ_normal2 ?_ | refine bodyQ_normal3 ?_ | refine bodyQ_normal4 ?_ | refine bodyQ_ret0 ?_ | refine bodyQ_ret1 ?_ | refine bodyQ_ret2 ?_ | refine bodyQ_ret3 ?_ | refine bodyQ_ret4 ?_); (try simp only [EVB, Nat.reduceEqDiff, reduceIte]))
    | ((with_reducible show C _ _ _ _ _ _); first | (refine fieldsR_C h.toHI hOt hF6 (by omega) ?_) | ((refine CWhole_C h.toHI (most := ((L.flatten.length : Nat) : Int) - 1) (by omega) (by omega) hS6 hl6 (by simp only [List.length_append]; omega) (fun c hc S7 k7 => ?_) (fun q => absurd q (by rw [ho2]; simp)))))
    | (with_reducible refine Cont.use (by assumption) ?_)
    | (with_reducible first | refine hcA ?_ | refine hcB ?_)
    | ((with_reducible first | refine W_condG fun cA cB hcA hcB => ?_ | refine W_regionI ?_ | show O _ _ _ _ _ _ _ _ | show OK _ _ _ _ _ _ _ _ _ | show OKF _ _ _ _ _ _ _ _ _ _ | show OKT _ _ _ _ _ _ _ _ _ _ _ _ | show _ ∧ _ | show CG _ _ _ | show CB _ _ _); simp (disch := first | ((with_reducible show isStop _ = false); rfl) | ((with_reducible show isP _ = true); rfl) | ((with_reducible show (isStop _ || isP _) = false); rfl) | assumption | (simp only [GSB, Nat.reduceEqDiff, reduceIte]; done) | omega | (with_reducible decide) | (simp only [DSB, Go.Proofs.YtdfgdpjlbcnkfaaDoorAbs.oneC, Nat.reduceAdd, Nat.reduceLeDiff] <;> omega) | fail) only [↓DN, ↓reduceIte, UP, CGB, Int.reduceEq, Int.reduceLT, Int.reduceLE, Nat.reduceEqDiff, Nat.reduceAdd, Nat.reduceMul, Nat.reduceSub, Int.reduceToNat, Nat.reduceLeDiff, PF, isStop, isP, goInt, beq_self_eq_true, decide_true, decide_false, Int.toNat_natCast, Int.natCast_zero, nn_eq, nn_ne, e0, e1, e2, e10, c1, c2, hs, d5, ws, errW])
    | ((with_reducible refine CB_intro (fun ht => hcA ?_) (fun ht => hcB ?_)) <;> (first | (simp only [Bool.true_eq_false, Bool.false_eq_true] at ht; done) | ((try simp only [Bool.not_eq_true', Bool.not_eq_false'] at ht); (try simp only [ht]); (try simp only [HTN] at ht); (try (exfalso; omega)))))
    | ((with_reducible refine W_regionI ?_); simp only [List.append_eq, List.cons_append, List.nil_append])
    | (with_reducible refine O_splitG fun cA cB hcA hcB => ?_))
    rw [ho2] at hc
    cases hc
    have h67 := (kS6.trans k7).get h6n h6
    have hnm : numF (some 33) = 33 := rfl
    repeat' (first
    | (with_reducible first | refine W_pushC fun K hK => ?_ | refine W_blockI ?_ | refine W_scopeI ?_ | refine W_labelI ?_ | refine W_skipI ?_ | refine W_retI ?_ | refine W_exitI ?_ | refine then_normalI ?_ | refine then_retI ?_ | refine then_exitI ?_ | refine inBlock_normalI ?_ | refine inBlock_retI ?_ | refine inBlock_exitI ?_ | refine inBlock_exitN (by decide) ?_)
    | ((with_reducible first | refine bodyQ_normal0 ?_ | refine bodyQ_normal1 ?_ | refine bodyQ_normal2 ?_ | refine bodyQ_normal3 ?_ | refine bodyQ_normal4 ?_ | refine bodyQ_ret0 ?_ | refine bodyQ_ret1 ?_ | refine bodyQ_ret2 ?_ | refine bodyQ_ret3 ?_ | refine bodyQ_ret4 ?_); (try simp only [EVB, Nat.reduceEqDiff, reduceIte]))
    | ((with_reducible show C _ _ _ _ _ _); first | (refine num_C h.toHI (e := some 33) ?_) | (refine h.works _ _ h67 ?_))
    | (with_reducible refine Cont.use (by assumption) ?_)
    | (with_reducible first | refine hcA ?_ | refine hcB ?_)
    | ((with_reducible first | refine W_condG fun cA cB hcA hcB => ?_ | refine W_regionI ?_ | show O _ _ _ _ _ _ _ _ | show OK _ _ _ _ _ _ _ _ _ | show OKF _ _ _ _ _ _ _ _ _ _ | show OKT _ _ _ _ _ _ _ _ _ _ _ _ | show _ ∧ _ | show CG _ _ _ | show CB _ _ _); simp (disch := first | ((with_reducible show isStop _ = false); rfl) | ((with_reducible show isP _ = true); rfl) | ((with_reducible show (isStop _ || isP _) = false); rfl) | assumption | (simp only [GSB, Nat.reduceEqDiff, reduceIte]; done) | omega | (with_reducible decide) | (simp only [DSB, Go.Proofs.YtdfgdpjlbcnkfaaDoorAbs.oneC, Nat.reduceAdd, Nat.reduceLeDiff] <;> omega) | fail) only [↓DN, ↓reduceIte, UP, CGB, Int.reduceEq, Int.reduceLT, Int.reduceLE, Nat.reduceEqDiff, Nat.reduceAdd, Nat.reduceMul, Nat.reduceSub, Int.reduceToNat, Nat.reduceLeDiff, PF, isStop, isP, goInt, beq_self_eq_true, decide_true, decide_false, Int.toNat_natCast, Int.natCast_zero, nn_eq, nn_ne, hnm, d5])
    | ((with_reducible refine CB_intro (fun ht => hcA ?_) (fun ht => hcB ?_)) <;> (first | (simp only [Bool.true_eq_false, Bool.false_eq_true] at ht; done) | ((try simp only [Bool.not_eq_true', Bool.not_eq_false'] at ht); (try simp only [ht]); (try simp only [HTN] at ht); (try (exfalso; omega)))))
    | ((with_reducible refine W_regionI ?_); simp only [List.append_eq, List.cons_append, List.nil_append])
    | (with_reducible refine O_splitG fun cA cB hcA hcB => ?_)
    | (exact hQ _))
  · repeat' (first
    | (with_reducible first | refine W_pushC fun K hK => ?_ | refine W_blockI ?_ | refine W_scopeI ?_ | refine W_labelI ?_ | refine W_skipI ?_ | refine W_retI ?_ | refine W_exitI ?_ | refine then_normalI ?_ | refine then_retI ?_ | refine then_exitI ?_ | refine inBlock_normalI ?_ | refine inBlock_retI ?_ | refine inBlock_exitI ?_ | refine inBlock_exitN (by decide) ?_)
    | ((with_reducible first | refine bodyQ_normal0 ?_ | refine bodyQ_normal1 ?_ | refine bodyQ_normal2 ?_ | refine bodyQ_normal3 ?_ | refine bodyQ_normal4 ?_ | refine bodyQ_ret0 ?_ | refine bodyQ_ret1 ?_ | refine bodyQ_ret2 ?_ | refine bodyQ_ret3 ?_ | refine bodyQ_ret4 ?_); (try simp only [EVB, Nat.reduceEqDiff, reduceIte]))
    | (with_reducible refine Cont.use (by assumption) ?_)
    | (with_reducible first | refine hcA ?_ | refine hcB ?_)
    | ((with_reducible first | refine W_condG fun cA cB hcA hcB => ?_ | refine W_regionI ?_ | show O _ _ _ _ _ _ _ _ | show OK _ _ _ _ _ _ _ _ _ | show OKF _ _ _ _ _ _ _ _ _ _ | show OKT _ _ _ _ _ _ _ _ _ _ _ _ | show _ ∧ _ | show CG _ _ _ | show CB _ _ _); simp (disch := first | ((with_reducible show isStop _ = false); rfl) | ((with_reducible show isP _ = true); rfl) | ((with_reducible show (isStop _ || isP _) = false); rfl) | assumption | (simp only [GSB, Nat.reduceEqDiff, reduceIte]; done) | omega | (with_reducible decide) | (simp only [DSB, Go.Proofs.YtdfgdpjlbcnkfaaDoorAbs.oneC, Nat.reduceAdd, Nat.reduceLeDiff] <;> omega) | fail) only [↓DN, ↓reduceIte, UP, CGB, Int.reduceEq, Int.reduceLT, Int.reduceLE, Nat.reduceEqDiff, Nat.reduceAdd, Nat.reduceMul, Nat.reduceSub, Int.reduceToNat, Nat.reduceLeDiff, PF, isStop, isP, goInt, beq_self_eq_true, decide_true, decide_false, Int.toNat_natCast, Int.natCast_zero, nn_eq, nn_ne, e0, e1, e2, e7, e9, e10, e11, d1, d2])
    | ((with_reducible refine CB_intro (fun ht => hcA ?_) (fun ht => hcB ?_)) <;> (first | (simp only [Bool.true_eq_false, Bool.false_eq_true] at ht; done) | ((try simp only [Bool.not_eq_true', Bool.not_eq_false'] at ht); (try simp only [ht]); (try simp only [HTN] at ht); (try (exfalso; omega)))))
    | ((with_reducible refine W_regionI ?_); simp only [List.append_eq, List.cons_append, List.nil_append])
    | (with_reducible refine O_splitG fun cA cB hcA hcB => ?_))
    have hlv2 : Sl S2 (.slice la (lastB l).length lc) (lastB l) := sl_own (hA1.own.kept k2 (.inl rfl))
    refine O_twoB (S0 := S1) (va := va) (t := partsB L) (a := L.flatten) (c := lastB l) (by simp only [EVB, Nat.reduceEqDiff, reduceIte, e9]; exact hT) (by simp only [EVB, Nat.reduceEqDiff, reduceIte, e7]; exact hlv2) (by omega) fun v3 S3 hT3 => ?_
    obtain ⟨ta, tc, et⟩ := own_slice hT3.t.own
    obtain ⟨aa, ac, ea⟩ := own_slice hT3.a.own
    subst et ea
    repeat' (first
    | (with_reducible first | refine W_pushC fun K hK => ?_ | refine W_blockI ?_ | refine W_scopeI ?_ | refine W_labelI ?_ | refine W_skipI ?_ | refine W_retI ?_ | refine W_exitI ?_ | refine then_normalI ?_ | refine then_retI ?_ | refine then_exitI ?_ | refine inBlock_normalI ?_ | refine inBlock_retI ?_ | refine inBlock_exitI ?_ | refine inBlock_exitN (by decide) ?_)
    | ((with_reducible first | refine bodyQ_normal0 ?_ | refine bodyQ_normal1 ?_ | refine bodyQ_normal2 ?_ | refine bodyQ_normal3 ?_ | refine bodyQ_normal4 ?_ | refine bodyQ_ret0 ?_ | refine bodyQ_ret1 ?_ | refine bodyQ_ret2 ?_ | refine bodyQ_ret3 ?_ | refine bodyQ_ret4 ?_); (try simp only [EVB, Nat.reduceEqDiff, reduceIte]))
    | (with_reducible refine Cont.use (by assumption) ?_)
    | (with_reducible first | refine hcA ?_ | refine hcB ?_)
    | ((with_reducible first | refine W_condG fun cA cB hcA hcB => ?_ | refine W_regionI ?_ | show O _ _ _ _ _ _ _ _ | show OK _ _ _ _ _ _ _ _ _ | show OKF _ _ _ _ _ _ _ _ _ _ | show OKT _ _ _ _ _ _ _ _ _ _ _ _ | show _ ∧ _ | show CG _ _ _ | show CB _ _ _); simp (disch := first | ((with_reducible show isStop _ = false); rfl) | ((with_reducible show isP _ = true); rfl) | ((with_reducible show (isStop _ || isP _) = false); rfl) | assumption | (simp only [GSB, Nat.reduceEqDiff, reduceIte]; done) | omega | (with_reducible decide) | (simp only [DSB, Go.Proofs.YtdfgdpjlbcnkfaaDoorAbs.oneC, Nat.reduceAdd, Nat.reduceLeDiff] <;> omega) | fail) only [↓DN, ↓reduceIte, UP, CGB, Int.reduceEq, Int.reduceLT, Int.reduceLE, Nat.reduceEqDiff, Nat.reduceAdd, Nat.reduceMul, Nat.reduceSub, Int.reduceToNat, Nat.reduceLeDiff, PF, isStop, isP, goInt, beq_self_eq_true, decide_true, decide_false, Int.toNat_natCast, Int.natCast_zero, nn_eq, nn_ne, e0, e1, e2, e10])
    | ((with_reducible refine CB_intro (fun ht => hcA ?_) (fun ht => hcB ?_)) <;> (first | (simp only [Bool.true_eq_false, Bool.false_eq_true] at ht; done) | ((try simp only [Bool.not_eq_true', Bool.not_eq_false'] at ht); (try simp only [ht]); (try simp only [HTN] at ht); (try (exfalso; omega)))))
    | ((with_reducible refine W_regionI ?_); simp only [List.append_eq, List.cons_append, List.nil_append])
    | (with_reducible refine O_splitG fun cA cB hcA hcB => ?_))
    refine O_accX (S0 := S1) (a := partsB L ++ lastB l) (c := bh) (by simp only [EVB, Nat.reduceEqDiff, reduceIte]; exact hT3.t) (by simp [last_ne]) (by simp only [EVB, Nat.reduceEqDiff, reduceIte, e2]) (by rw [List.length_append]; omega) fun v4 S4 hA4 hS4 hK4 => ?_
    simp only [EVB, Nat.reduceEqDiff, reduceIte] at hS4 hK4
    have hOa4 : Own 5 1 S4 (.slice aa L.flatten.length ac) L.flatten.length (u8v L.flatten) := hT3.a.own.kept hK4 (by
      cases hq : blkOf (.slice ta (partsB L ++ lastB l).length tc) with
      | none => exact .inl rfl
      | some j => exact .inr (fun q => hT3.ne j hq q.symm))
    have kS4 : Kept S S4 none := kS1.trans hA4.kept
    have hl4 : ∀ j, blkOf v4 = some j → j < S4.next := fun j q => own_lt hA4.own q
    have hlt3 : ∀ j, blkOf (.slice ta (partsB L ++ lastB l).length tc) = some j → j < S4.next := fun j q => Nat.lt_of_lt_of_le (own_lt hT3.t.own q) hK4.1
    have hfl : L.flatten.length ≤ 1099511627776 := by omega
    obtain ⟨f1, f2, f3, f4, f5⟩ := back_feed L l bh hfl hok hls hl64
    repeat' (first
    | (with_reducible first | refine W_pushC fun K hK => ?_ | refine W_blockI ?_ | refine W_scopeI ?_ | refine W_labelI ?_ | refine W_skipI ?_ | refine W_retI ?_ | refine W_exitI ?_ | refine then_normalI ?_ | refine then_retI ?_ | refine then_exitI ?_ | refine inBlock_normalI ?_ | refine inBlock_retI ?_ | refine inBlock_exitI ?_ | refine inBlock_exitN (by decide) ?_)
    | ((with_reducible first | refine bodyQ_normal0 ?_ | refine bodyQ_normal1 ?_ | refine bodyQ_normal2 ?_ | refine bodyQ_normal3 ?_ | refine bodyQ_normal4 ?_ | refine bodyQ_ret0 ?_ | refine bodyQ_ret1 ?_ | refine bodyQ_ret2 ?_ | refine bodyQ_ret3 ?_ | refine bodyQ_ret4 ?_); (try simp only [EVB, Nat.reduceEqDiff, reduceIte]))
    | ((with_reducible show C _ _ _ _ _ _); first | ((refine CWhole_C h.toHI (most := ((L.flatten.length : Nat) : Int)) (by omega) (by omega) (sl_own hA4.own) hl4 (by simp only [List.length_append]; omega) (fun c hc => absurd hc (by rw [f3]; simp)) (fun _ => ⟨f4, fun ov tv S6 hOv hOt k46 hno => ?_⟩))))
    | (with_reducible refine Cont.use (by assumption) ?_)
    | (with_reducible first | refine hcA ?_ | refine hcB ?_)
    | ((with_reducible first | refine W_condG fun cA cB hcA hcB => ?_ | refine W_regionI ?_ | show O _ _ _ _ _ _ _ _ | show OK _ _ _ _ _ _ _ _ _ | show OKF _ _ _ _ _ _ _ _ _ _ | show OKT _ _ _ _ _ _ _ _ _ _ _ _ | show _ ∧ _ | show CG _ _ _ | show CB _ _ _); simp (disch := first | ((with_reducible show isStop _ = false); rfl) | ((with_reducible show isP _ = true); rfl) | ((with_reducible show (isStop _ || isP _) = false); rfl) | assumption | (simp only [GSB, Nat.reduceEqDiff, reduceIte]; done) | omega | (with_reducible decide) | (simp only [DSB, Go.Proofs.YtdfgdpjlbcnkfaaDoorAbs.oneC, Nat.reduceAdd, Nat.reduceLeDiff] <;> omega) | fail) only [↓DN, ↓reduceIte, UP, CGB, Int.reduceEq, Int.reduceLT, Int.reduceLE, Nat.reduceEqDiff, Nat.reduceAdd, Nat.reduceMul, Nat.reduceSub, Int.reduceToNat, Nat.reduceLeDiff, PF, isStop, isP, goInt, beq_self_eq_true, decide_true, decide_false, Int.toNat_natCast, Int.natCast_zero, nn_eq, nn_ne, e0, e1, e2, e10, f1])
    | ((with_reducible refine CB_intro (fun ht => hcA ?_) (fun ht => hcB ?_)) <;> (first | (simp only [Bool.true_eq_false, Bool.false_eq_true] at ht; done) | ((try simp only [Bool.not_eq_true', Bool.not_eq_false'] at ht); (try simp only [ht]); (try simp only [HTN] at ht); (try (exfalso; omega)))))
    | ((with_reducible refine W_regionI ?_); simp only [List.append_eq, List.cons_append, List.nil_append])
    | (with_reducible refine O_splitG fun cA cB hcA hcB => ?_))
    rw [f2] at hOv
    rw [f5] at hOt
    have kS6 := kS4.trans k46
    have h66 := kS6.get h6n h6
    have hF6 := hF.kept kS6
    have c1 := conv_any hOv
    have c2 := conv_any (hOa4.kept k46 (.inl rfl))
    have hS6 := sl_kept hS4 k46 (by simp)
    have hl6 : ∀ j, blkOf (.slice ta (partsB L ++ lastB l).length tc) = some j → j < S6.next := fun j q => Nat.lt_of_lt_of_le (hlt3 j q) k46.1
    have hs : ((⟨L.flatten.toArray⟩ : ByteArray).toList == (⟨L.flatten.toArray⟩ : ByteArray).toList) = true := beq_self_eq_true _
    by_cases h0 : L.flatten.length = 0
    · have d5 : ((L.flatten.length : Nat) : Int) = 0 := by omega
      repeat' (first
    | (with_reducible first | refine W_pushC fun K hK => ?_ | refine W_blockI ?_ | refine W_scopeI ?_ | refine W_labelI ?_ | refine W_skipI ?_ | refine W_retI ?_ | refine W_exitI ?_ | refine then_normalI ?_ | refine then_retI ?_ | refine then_exitI ?_ | refine inBlock_normalI ?_ | refine inBlock_retI ?_ | refine inBlock_exitI ?_ | refine inBlock_exitN (by decide) ?_)
    | ((with_reducible first | refine bodyQ_normal0 ?_ | refine bodyQ_normal1 ?_ | refine bodyQ_normal2 ?_ | refine bodyQ_normal3 ?_ | refine bodyQ_normal4 ?_ | refine bodyQ_ret0 ?_ | refine bodyQ_ret1 ?_ | refine bodyQ_ret2 ?_ | refine bodyQ_ret3 ?_ | refine bodyQ_ret4 ?_); (try simp only [EVB, Nat.reduceEqDiff, reduceIte]))
    | ((with_reducible show C _ _ _ _ _ _); first | (refine fieldsR_C h.toHI hOt hF6 (by omega) ?_) | (refine h.works _ _ h66 ?_))
    | (with_reducible refine Cont.use (by assumption) ?_)
    | (with_reducible first | refine hcA ?_ | refine hcB ?_)
    | ((with_reducible first | refine W_condG fun cA cB hcA hcB => ?_ | refine W_regionI ?_ | show O _ _ _ _ _ _ _ _ | show OK _ _ _ _ _ _ _ _ _ | show OKF _ _ _ _ _ _ _ _ _ _ | show OKT _ _ _ _ _ _ _ _ _ _ _ _ | show _ ∧ _ | show CG _ _ _ | show CB _ _ _); simp (disch := first | ((with_reducible show isStop _ = false); rfl) | ((with_reducible show isP _ = true); rfl) | ((with_reducible show (isStop _ || isP _) = false); rfl) | assumption | (simp only [GSB, Nat.reduceEqDiff, reduceIte]; done) | omega | (with_reducible decide) | (simp only [DSB, Go.Proofs.YtdfgdpjlbcnkfaaDoorAbs.oneC, Nat.reduceAdd, Nat.reduceLeDiff] <;> omega) | fail) only [↓DN, ↓reduceIte, UP, CGB, Int.reduceEq, Int.reduceLT, Int.reduceLE, Nat.reduceEqDiff, Nat.reduceAdd, Nat.reduceMul, Nat.reduceSub, Int.reduceToNat, Nat.reduceLeDiff, PF, isStop, isP, goInt, beq_self_eq_true, decide_true, decide_false, Int.toNat_natCast, Int.natCast_zero, nn_eq, nn_ne, e0, e1, e2, e10, c1, c2, hs, d5])
    | ((with_reducible refine CB_intro (fun ht => hcA ?_) (fun ht => hcB ?_)) <;> (first | (simp only [Bool.true_eq_false, Bool.false_eq_true] at ht; done) | ((try simp only [Bool.not_eq_true', Bool.not_eq_false'] at ht); (try simp only [ht]); (try simp only [HTN] at ht); (try (exfalso; omega)))))
    | ((with_reducible refine W_regionI ?_); simp only [List.append_eq, List.cons_append, List.nil_append])
    | (with_reducible refine O_splitG fun cA cB hcA hcB => ?_)
    | (exact hQ _))
    have d5 : decide (((L.flatten.length : Nat) : Int) = 0) = false := decide_eq_false (by omega)
    have ws : IntKind.i64.wrap (((L.flatten.length : Nat) : Int) - 1) = ((L.flatten.length : Nat) : Int) - 1 := by rw [Go.Proofs.YtdfgdpjlbcnkfaaDoorAbs.wp64 (by omega) (by omega)]
    have ho := over_feed (most := ((L.flatten.length : Nat) : Int) - 1) (by omega) L 0 (lastB l) (Int.le_refl _) (by omega) (by omega) hall
    have ho2 : (feedF (CR.fresh [] [] (((L.flatten.length : Nat) : Int) - 1)) (partsB L ++ lastB l)).2.2.err = some 33 := ho
    repeat' (first
    | (with_reducible first | refine W_pushC fun K hK => ?_ | refine W_blockI ?_ | refine W_scopeI ?_ | refine W_labelI ?_ | refine W_skipI ?_ | refine W_retI ?_ | refine W_exitI ?_ | refine then_normalI ?_ | refine then_retI ?_ | refine then_exitI ?_ | refine inBlock_normalI ?_ | refine inBlock_retI ?_ | refine inBlock_exitI ?_ | refine inBlock_exitN (by decide) ?_)
    | ((with_reducible first | refine bodyQ_normal0 ?_ | refine bodyQ_normal1 ?_ | refine bodyQ_normal2 ?_ | refine bodyQ_normal3 ?_ | refine bodyQ_normal4 ?_ | refine bodyQ_ret0 ?_ | refine bodyQ_ret1 ?_ | refine bodyQ_ret2 ?_ | refine bodyQ_ret3 ?_ | refine bodyQ_ret4 ?_); (try simp only [EVB, Nat.reduceEqDiff, reduceIte]))
    | ((with_reducible show C _ _ _ _ _ _); first | (refine fieldsR_C h.toHI hOt hF6 (by omega) ?_) | ((refine CWhole_C h.toHI (most := ((L.flatten.length : Nat) : Int) - 1) (by omega) (by omega) hS6 hl6 (by simp only [List.length_append]; omega) (fun c hc S7 k7 => ?_) (fun q => absurd q (by rw [ho2]; simp)))))
    | (with_reducible refine Cont.use (by assumption) ?_)
    | (with_reducible first | refine hcA ?_ | refine hcB ?_)
    | ((with_reducible first | refine W_condG fun cA cB hcA hcB => ?_ | refine W_regionI ?_ | show O _ _ _ _ _ _ _ _ | show OK _ _ _ _ _ _ _ _ _ | show OKF _ _ _ _ _ _ _ _ _ _ | show OKT _ _ _ _ _ _ _ _ _ _ _ _ | show _ ∧ _ | show CG _ _ _ | show CB _ _ _); simp (disch := first | ((with_reducible show isStop _ = false); rfl) | ((with_reducible show isP _ = true); rfl) | ((with_reducible show (isStop _ || isP _) = false); rfl) | assumption | (simp only [GSB, Nat.reduceEqDiff, reduceIte]; done) | omega | (with_reducible decide) | (simp only [DSB, Go.Proofs.YtdfgdpjlbcnkfaaDoorAbs.oneC, Nat.reduceAdd, Nat.reduceLeDiff] <;> omega) | fail) only [↓DN, ↓reduceIte, UP, CGB, Int.reduceEq, Int.reduceLT, Int.reduceLE, Nat.reduceEqDiff, Nat.reduceAdd, Nat.reduceMul, Nat.reduceSub, Int.reduceToNat, Nat.reduceLeDiff, PF, isStop, isP, goInt, beq_self_eq_true, decide_true, decide_false, Int.toNat_natCast, Int.natCast_zero, nn_eq, nn_ne, e0, e1, e2, e10, c1, c2, hs, d5, ws, errW])
    | ((with_reducible refine CB_intro (fun ht => hcA ?_) (fun ht => hcB ?_)) <;> (first | (simp only [Bool.true_eq_false, Bool.false_eq_true] at ht; done) | ((try simp only [Bool.not_eq_true', Bool.not_eq_false'] at ht); (try simp only [ht]); (try simp only [HTN] at ht); (try (exfalso; omega)))))
    | ((with_reducible refine W_regionI ?_); simp only [List.append_eq, List.cons_append, List.nil_append])
    | (with_reducible refine O_splitG fun cA cB hcA hcB => ?_))
    rw [ho2] at hc
    cases hc
    have h67 := (kS6.trans k7).get h6n h6
    have hnm : numF (some 33) = 33 := rfl
    repeat' (first
    | (with_reducible first | refine W_pushC fun K hK => ?_ | refine W_blockI ?_ | refine W_scopeI ?_ | refine W_labelI ?_ | refine W_skipI ?_ | refine W_retI ?_ | refine W_exitI ?_ | refine then_normalI ?_ | refine then_retI ?_ | refine then_exitI ?_ | refine inBlock_normalI ?_ | refine inBlock_retI ?_ | refine inBlock_exitI ?_ | refine inBlock_exitN (by decide) ?_)
    | ((with_reducible first | refine bodyQ_normal0 ?_ | refine bodyQ_normal1 ?_ | refine bodyQ_normal2 ?_ | refine bodyQ_normal3 ?_ | refine bodyQ_normal4 ?_ | refine bodyQ_ret0 ?_ | refine bodyQ_ret1 ?_ | refine bodyQ_ret2 ?_ | refine bodyQ_ret3 ?_ | refine bodyQ_ret4 ?_); (try simp only [EVB, Nat.reduceEqDiff, reduceIte]))
    | ((with_reducible show C _ _ _ _ _ _); first | (refine num_C h.toHI (e := some 33) ?_) | (refine h.works _ _ h67 ?_))
    | (with_reducible refine Cont.use (by assumption) ?_)
    | (with_reducible first | refine hcA ?_ | refine hcB ?_)
    | ((with_reducible first | refine W_condG fun cA cB hcA hcB => ?_ | refine W_regionI ?_ | show O _ _ _ _ _ _ _ _ | show OK _ _ _ _ _ _ _ _ _ | show OKF _ _ _ _ _ _ _ _ _ _ | show OKT _ _ _ _ _ _ _ _ _ _ _ _ | show _ ∧ _ | show CG _ _ _ | show CB _ _ _); simp (disch := first | ((with_reducible show isStop _ = false); rfl) | ((with_reducible show isP _ = true); rfl) | ((with_reducible show (isStop _ || isP _) = false); rfl) | assumption | (simp only [GSB, Nat.reduceEqDiff, reduceIte]; done) | omega | (with_reducible decide) | (simp only [DSB, Go.Proofs.YtdfgdpjlbcnkfaaDoorAbs.oneC, Nat.reduceAdd, Nat.reduceLeDiff] <;> omega) | fail) only [↓DN, ↓reduceIte, UP, CGB, Int.reduceEq, Int.reduceLT, Int.reduceLE, Nat.reduceEqDiff, Nat.reduceAdd, Nat.reduceMul, Nat.reduceSub, Int.reduceToNat, Nat.reduceLeDiff, PF, isStop, isP, goInt, beq_self_eq_true, decide_true, decide_false, Int.toNat_natCast, Int.natCast_zero, nn_eq, nn_ne, hnm, d5])
    | ((with_reducible refine CB_intro (fun ht => hcA ?_) (fun ht => hcB ?_)) <;> (first | (simp only [Bool.true_eq_false, Bool.false_eq_true] at ht; done) | ((try simp only [Bool.not_eq_true', Bool.not_eq_false'] at ht); (try simp only [ht]); (try simp only [HTN] at ht); (try (exfalso; omega)))))
    | ((with_reducible refine W_regionI ?_); simp only [List.append_eq, List.cons_append, List.nil_append])
    | (with_reducible refine O_splitG fun cA cB hcA hcB => ?_)
    | (exact hQ _))
end
end Go.Proofs.YtdfgdpjlbcnkfaaDoor.Q
namespace Go.Proofs
open Go.Shelf
def Tryd.growB_ren : Go.Shelf.Ren := ⟨fun | 4 => 56 | n => n, fun | 22 => 22 | 25 => 5 | 3 => 3 | 4 => 4 | 9 => 9 | 20 => 20 | 0 => 0 | n => n, fun | n => n⟩
theorem Tryd.growB : Go.Proofs.Lays8.n4 Tryd.prog Tryd.growB_ren := {
  mixed := by kernel_rfl
  f4 := ⟨Tryd.f56.name, by decide, Tryd.func56.trans (congrArg some (by kernel_rfl))⟩
  t0 := Tryd.underlying0
  a0 := Tryd.isAgg0
  z0 := Tryd.sizeOf0
  v0 := Tryd.zeroValue0
  t3 := Tryd.underlying3
  a3 := Tryd.isAgg3
  z3 := Tryd.sizeOf3
  v3 := Tryd.zeroValue3
  t4 := Tryd.underlying4
  a4 := Tryd.isAgg4
  z4 := Tryd.sizeOf4
  v4 := Tryd.zeroValue4
  t9 := Tryd.underlying9
  a9 := Tryd.isAgg9
  z9 := Tryd.sizeOf9
  v9 := Tryd.zeroValue9
  t20 := Tryd.underlying20
  a20 := Tryd.isAgg20
  z20 := Tryd.sizeOf20
  v20 := Tryd.zeroValue20
  t22 := Tryd.underlying22
  a22 := Tryd.isAgg22
  z22 := Tryd.sizeOf22
  v22 := Tryd.zeroValue22 }
end Go.Proofs
namespace Go.Proofs.YtdfgdpjlbcnkfaaDoor.Q
open Go Go.Proofs.YtdfgdpjlbcnkfaaDoorAbs Go.Proofs Go.RowKit
set_option linter.unusedVariables false
set_option linter.unusedSimpArgs false
set_option maxRecDepth 1000000
theorem calls_of_run1 {P : Program} {I : Prims} (hI : PrimSim P I) (hm : P.follows .mixedOrders = true) {f k : Nat} {gl : Nat → Option (List Value)} {u x : Value} {S1 : St} (hs : scalar u = true) (hx : leaf x = true) (hk : acall P I k f #[x] (St.start P.globals.size gl) = some (u, S1))
    {ρ : Ren} {S : St} {w : World} (hrel : Rel P ρ S w) (hg : ∀ g cs, g ≤ P.globals.size → gl g = some cs → cs.all leaf = true ∧ ∃ el m, S.get g = some ⟨cs, el, false, m⟩) : Calls P f #[x] w fun e w' => e = .returned u ∧ RowKit.Below w.heap.size w w' := by
  have st0 : Go.Proofs.YtdfgdpjlbcnkfaaDoorAbs.Start P (Ren.start P.globals.size) (St.start P.globals.size gl) w := by
    refine start0 gl (hrel.loc _ _ _ (hrel.glob _ (Nat.le_refl _))) fun g cs hle hgl j v hj => ?_
    obtain ⟨hl, el, m, hget⟩ := hg g cs hle hgl
    have q := hrel.blk _ _ _ _ (hrel.glob g hle) hget
    obtain ⟨A, v', e1, e2, e3⟩ := q.cells (fun h => by cases h) j v (Nat.zero_le _) (fun h => by cases h) hj
    have hA : A = j := by simp at e1; omega
    subst hA
    have hlv : leaf v = true := by
      rw [List.all_eq_true] at hl
      exact hl v (List.mem_of_getElem? hj)
    obtain rfl := e3.leaf_eq hlv
    exact ⟨_, e2, .leaf _ hlv⟩
  exact law_of_run hI hm hk hs st0.rel st0.wf (VRL.cons (.leaf x hx) (VRL.nil _)) st0.new st0.low st0.their
open Classical in
noncomputable def pTz (_ : Nat) (xs : Array Value) (S : St) : Option Value := if xs = #[.int .u64 16] ∧ S.get 6 = some ⟨tab64, 0, false, 0⟩ then some (.int .i64 4) else none
def isFour (r : Option (Value × St)) : Bool := match r with | some (.int .i64 4, _) => true | _ => false
theorem isFour_some {r : Option (Value × St)} (h : isFour r = true) : ∃ S, r = some (.int .i64 4, S) := by
  unfold isFour at h
  split at h
  · exact ⟨_, rfl⟩
  · cases h
theorem tz_run : isFour (acall Tryd.prog prims0 20 97 #[.int .u64 16] (St.start 7 gl64)) = true := by kernel_rfl
theorem still_tz (k : Nat) : Still Tryd.prog 97 (pTz k) := ⟨fun xs S v h ρ w ys hrel hxs => by
  unfold pTz at h
  split at h
  case isFalse => cases h
  rename_i hc
  obtain ⟨rfl, h6⟩ := hc
  cases h
  obtain ⟨S1, hk⟩ := isFour_some tz_run
  obtain ⟨y, ys', hy, h4, h5⟩ := hxs.uncons
  obtain rfl := h5.of_nil
  obtain rfl := h4.leaf_eq rfl
  obtain rfl : ys = #[.int .u64 16] := Array.ext' hy
  refine (calls_of_run1 (u := .int .i64 4) prims0_sim mixed rfl rfl (by rw [nglob]; exact hk) hrel (gl64_ok h6)).mono ?_
  rintro e w' ⟨rfl, hb⟩
  exact ⟨_, rfl, VR.scalar rfl, hb⟩⟩
open Classical in
noncomputable def pGrow (xs : Array Value) (S : St) : Option (Value × St) := if ∃ n : Nat, 0 < n ∧ n ≤ 1099511627776 ∧ xs = #[.slice none 0 0, .int .i64 n] then some (.slice (some ⟨S.next, 0, some 0⟩) 0 (UNK + 1), S.push ⟨[], 5, true, 0⟩) else none
theorem grow_sim {xs : Array Value} {S S' : St} {v : Value} (h : pGrow xs S = some (v, S')) {ρ : Ren} {w : World} {ys : Array Value} (hrel : Rel Tryd.prog ρ S w) (hxs : VRL ρ xs.toList ys.toList) (hf : Fresh ρ S S') :
    Calls Tryd.prog 56 ys w fun e w' => ∃ ρ' cv, e = .returned cv ∧ VR ρ' v cv ∧ Step Tryd.prog ρ S w ρ' S' w' := by
  unfold pGrow at h
  split at h
  case isFalse => cases h
  rename_i hc
  obtain ⟨n, h0, hn, rfl⟩ := hc
  cases h
  obtain ⟨y, ys', hy, h4, h5⟩ := hxs.uncons
  obtain ⟨z, zs', rfl, h6, h7⟩ := h5.uncons
  obtain rfl := h7.of_nil
  obtain rfl := h4.leaf_eq rfl
  obtain rfl := h6.leaf_eq rfl
  obtain rfl : ys = #[.slice none 0 0, .int .i64 n] := Array.ext' hy
  obtain ⟨i0, hi, hi1⟩ : ∃ i, Tryd.prog.info? 5 = some i ∧ i.size = 1 := by
    have := sz5
    unfold asize at this
    cases hq : Tryd.prog.info? 5 with
    | none => rw [hq] at this; cases this
    | some i => rw [hq] at this; exact ⟨i, rfl, by simpa using this⟩
  have hi2 : i0.bytes = 1 := by simpa [abytes, hi] using by5
  have hi3 : i0.zero = some (.int .u8 0) := by simpa [azero, hi] using ze5
  have hc := Any8.slices_Grow_grow Tryd.growB i0 (.int .u8 0) hi hi3 (by omega) none 0 0 n [] w (Nat.le_refl _) (by omega) (by rw [hi2]; omega) (by omega) (by simp) (fun _ => rfl) (fun a q => by cases q)
  refine hc.mono ?_
  rintro e w' ⟨rfl, rfl⟩
  have hw : Rel Tryd.prog ρ S w.drew := hrel.same rfl rfl
  have st := step_push (P := Tryd.prog) (fr := (0, 0)) (w := w.drew) hw (fun L => hf S.next L (Nat.le_refl _) (by simp)) (VRL.nil ρ) (sp := (Builtin.zeroCells (Value.int IntKind.u8 0).cells (0 + n - 0) ++ Builtin.zeroCells (Value.int IntKind.u8 0).cells (grownCap w (0 + n) 0 5 - (0 + n))).toList) (cells := ([].toArray ++ Builtin.zeroCells (Value.int IntKind.u8 0).cells (0 + n - 0) ++ Builtin.zeroCells (Value.int IntKind.u8 0).cells (grownCap w (0 + n) 0 5 - (0 + n)))) (elem := 5) (by simp) sz5 (.inl rfl)
  refine ⟨_, _, rfl, ?_, st.world rfl rfl ⟨rfl, rfl, rfl⟩ ⟨rfl, rfl, rfl⟩⟩
  have hg := grownCap_ge w (0 + n) 0 5
  refine .sl _ 0 _ 0 _ _ _ ⟨w.heap.size, 0, 0, _, 1, true⟩ (by simp [Ren.add]; rfl) (Nat.le_refl _) (by simp) (.inl (Nat.le_add_right _ _)) (Nat.zero_le _) (fun _ _ => ?_)
  rw [Nat.add_sub_cancel_left]
  have hz : (Value.int IntKind.u8 0).cells.size = 1 := rfl
  have ht : Tryd.growB_ren.t 25 = 5 := rfl
  simp only [Array.size_append, zeroCells_size, hz, ht, List.size_toArray, List.length_nil, Nat.zero_add, Nat.mul_one, Nat.sub_zero] at hg ⊢
  omega
noncomputable def primLG : List (FuncId × (Nat → Array Value → St → Option Value)) := [(68, pIdxS), (60, pIdxB), (88, pIdx1), (55, pTrim), (14, pWorks), (97, pTz)]
noncomputable def primsG : Prims := fun k f => if f = 56 then some pGrow else stills primLG k f
theorem primLG_sim : PrimSim Tryd.prog (stills primLG) := stills_sim fun x hx k => by
  simp only [primLG, List.mem_cons, List.not_mem_nil, or_false] at hx
  rcases hx with rfl | rfl | rfl | rfl | rfl | rfl
  · exact still_idxS k
  · exact still_idxB k
  · exact still_idx1 k
  · exact still_trim k
  · exact still_works k
  · exact still_tz k
theorem primsG_sim : PrimSim Tryd.prog primsG := by
  refine ⟨fun k f p hp xs S v S' hr => ?_, fun k f p hp xs S v S' hr ρ w ys hrel hwf hxs hf => ?_⟩
  · unfold primsG at hp
    split at hp
    · cases hp
      unfold pGrow at hr
      split at hr
      · cases hr; exact Mono.push S _
      · cases hr
    · exact primLG_sim.mono k f p hp xs S v S' hr
  · unfold primsG at hp
    split at hp
    · rename_i h56
      cases hp
      subst h56
      exact grow_sim hr hrel hxs hf
    · exact primLG_sim.sim k f p hp xs S v S' hr ρ w ys hrel hwf hxs hf
theorem primsG_ok : HW primsG where
  no := fun f hf k => by
    simp only [isPrim, Bool.or_eq_false_iff, beq_eq_false_iff_ne, ne_eq] at hf
    obtain ⟨⟨⟨⟨⟨⟨⟨⟨⟨h1, h2⟩, h3⟩, h4⟩, h5⟩, h6⟩, h7⟩, h8⟩, h9⟩, h10⟩ := hf
    have : primLG.find? (fun x => x.1 == f) = none := by
      rw [List.find?_eq_none]
      intro x hx
      simp only [primLG, List.mem_cons, List.not_mem_nil, or_false] at hx
      rcases hx with rfl | rfl | rfl | rfl | rfl | rfl <;> simp <;> omega
    simp only [primsG, if_neg h10, stills, this]
  idxS := fun s c S Q hq => C_prim ⟨0, fun k' _ => ⟨_, rfl, rfl⟩⟩ hq
  idxB := fun S v n xs c Q hO hq => by
    rcases hO.2.2 with ⟨rfl, h0⟩ | ⟨b, m, rfl, h1, h2, h3, h4⟩
    · have : xs = [] := by have := hO.1; subst h0; simpa [u8v] using this
      subst this
      exact C_prim ⟨0, fun k' _ => ⟨_, rfl, rfl⟩⟩ hq
    · have hc := cellsAt_own hO (u8v_leaf xs) Nat.one_pos
      have hne : u8v xs ≠ [] := fun e => by have := hO.1; rw [e] at this; simp at this; omega
      refine C_prim ⟨0, fun k' _ => ⟨_, rfl, ?_⟩⟩ hq
      have : pIdxB k' #[.slice (some ⟨b, 0, some (u8v xs).length⟩) n (UNK + 1), .int .u8 c] S = some (.int .i64 (Lib.indexByte xs c.toNat.toUInt8)) := by
        unfold pIdxB
        simp only [hc, Option.bind_some, if_neg hne, nums8_u8v, Option.map_some, bytes_u8v]
      exact congrArg (Option.map fun x => (x, S)) this
  idx1 := fun S v n xs b2 m c Q hO hn hb hm hq => by
    have hc := cellsAt_own hO (u8v_leaf xs) Nat.one_pos
    have hne : u8v xs ≠ [] := fun e => by have := hO.1; rw [e] at this; simp at this; omega
    have hs : cellsAt 1 S (.slice (some ⟨b2, 0, some 1⟩) 1 1) = some [.int .u8 c] := by
      simp only [cellsAt]
      rw [if_neg (by decide)]
      have : aread S ⟨b2, 0, some 1⟩ (1 * 1) = some [.int .u8 c] := by
        unfold aread
        simp only [hb]
        rw [if_pos ⟨fun _ => ⟨hm, by simp⟩, by simp⟩]
        rfl
      simp [this, leaf]
    refine C_prim ⟨0, fun k' _ => ⟨_, rfl, ?_⟩⟩ hq
    have : pIdx1 k' #[v, .slice (some ⟨b2, 0, some 1⟩) 1 1] S = some (.int .i64 (Lib.indexByte xs c.toNat.toUInt8)) := by
      unfold pIdx1
      simp only [hc, hs, Option.bind_some, if_neg hne, nums8_u8v, Option.map_some, bytes_u8v]
    exact congrArg (Option.map fun x => (x, S)) this
  trim := fun S s Q hs hq => by
    refine C_prim ⟨0, fun k' _ => ⟨_, rfl, ?_⟩⟩ hq
    have : pTrim k' #[.string s, .string ⟨#[32, 9]⟩] S = some (.string (trimB s)) := by
      unfold pTrim
      exact if_pos ⟨hs, rfl⟩
    exact congrArg (Option.map fun x => (x, S)) this
  works := fun S Q h6 hq => by
    refine C_prim ⟨0, fun k' _ => ⟨_, rfl, ?_⟩⟩ hq
    have : pWorks k' #[] S = some (.bool true) := by
      unfold pWorks
      rw [if_pos ⟨rfl, h6⟩]
    exact congrArg (Option.map fun x => (x, S)) this
theorem primsG_grow : HGrow primsG := fun S n Q h0 hn hq => by
  refine C_prim ⟨0, fun k' _ => ⟨pGrow, rfl, ?_⟩⟩ hq
  unfold pGrow
  rw [if_pos ⟨n, h0, hn, rfl⟩]
theorem primsG_tz : HTZ primsG := fun S Q h6 hq => by
  refine C_prim ⟨0, fun k' _ => ⟨_, rfl, ?_⟩⟩ hq
  have : pTz k' #[.int .u64 16] S = some (.int .i64 4) := by
    unfold pTz
    rw [if_pos ⟨rfl, h6⟩]
  exact congrArg (Option.map fun x => (x, S)) this
end Go.Proofs.YtdfgdpjlbcnkfaaDoor.Q
set_option linter.unusedVariables false
set_option linter.unusedSimpArgs false
namespace Go.Proofs.YtdfgdpjlbcnkfaaDoorW.PrintWords
open Go.RowKit
structure Drawn0 (w w' : World) : Prop where mk :: (out : ∃ n, w' = w.drewN n)
theorem Drawn0.refl (w : World) : Drawn0 w w := ⟨⟨0, rfl⟩⟩
theorem Drawn0.step {w w' : World} (h : Drawn0 w w') (n : Nat) : Drawn0 w (w'.drewN n) := by
  obtain ⟨m, rfl⟩ := h
  exact ⟨⟨m + n, World.drewN_drewN ..⟩⟩
theorem Drawn0.grown {w w' : World} (h : Drawn0 w w') : Grown w w' := by
  obtain ⟨n, rfl⟩ := h
  induction n with
  | zero => exact Grown.refl _
  | succ n ih => rw [← World.drew_drewN]; exact Grown.drew ih
theorem Drawn0.below {w w' : World} (h : Drawn0 w w') : Below w.heap.size w w' := by
  obtain ⟨n, rfl⟩ := h
  induction n with
  | zero => exact Below.refl _ _
  | succ n ih => rw [← World.drew_drewN]; exact ih.drew
def rd (xs : List Int) (i : Int) : Int := xs.getD i.toNat 0
def bt (s : ByteArray) (i : Int) : Int := if h : i.toNat < s.size then ((s[i.toNat]'h).toNat : Int) else 0
theorem grown_of_below {w w1 : World} (h : Below w.heap.size w w1) (row : Option Nat) : w.grownBy w1 row := ⟨h.os, h.tape, h.output, h.size, fun i hi _ => h.block i hi⟩
theorem pw_cell_below {w w1 : World} (h : Below w.heap.size w w1) {a : Addr} {v : Value} (hc : w.cell? a = some v) : w1.cell? a = some v := (h.cell (World.block_lt_of_cell? w a hc)).trans hc
def ReadsInt (w : World) (k : IntKind) (A : Option Addr) (n : Nat) (xs : List Int) : Prop :=
  xs.length = n ∧ n ≤ 9223372036854775807 ∧ (0 < n → ∃ ad, A = some ad ∧ ∀ j, j < n → w.cell? (ad.add j) = some (.int k (xs.getD j 0)))
theorem ReadsInt.below {w w1 : World} {k : IntKind} {A : Option Addr} {n : Nat} {xs : List Int} (h : ReadsInt w k A n xs) (hb : Below w.heap.size w w1) : ReadsInt w1 k A n xs :=
  ⟨h.1, h.2.1, fun hn => by
    obtain ⟨ad, e, hc⟩ := h.2.2 hn
    exact ⟨ad, e, fun j hj => pw_cell_below hb (hc j hj)⟩⟩
theorem own_nil (W : World) (base : Nat) (e : TypeId) (size : Nat) : W.ownsRow base e size (.slice none 0 0) 0 [] := ⟨by simp, .inl ⟨rfl, rfl⟩⟩
theorem own_base {w : World} {base : Nat} {e : TypeId} {size n : Nat} {v : Value} {xs : List Value} (h : w.ownsRow base e size v n xs) (k : Nat) (hk : v.ownBlock = some k) : base ≤ k := by
  rcases h.2 with ⟨rfl, _⟩ | ⟨g, cap, cur, rfl, hb, _⟩
  · simp [Value.ownBlock] at hk
  · have : g = k := by simpa [Value.ownBlock] using hk
    omega
theorem own_lt {w : World} {base : Nat} {e : TypeId} {size n : Nat} {v : Value} {xs : List Value} (h : w.ownsRow base e size v n xs) (k : Nat) (hk : v.ownBlock = some k) : k < w.heap.size := by
  rcases h.2 with ⟨rfl, _⟩ | ⟨g, cap, cur, rfl, hb, hh, _⟩
  · simp [Value.ownBlock] at hk
  · have : g = k := by simpa [Value.ownBlock] using hk
    subst this
    exact (Array.getElem?_eq_some_iff.1 hh).1
theorem pw_own_below {w w1 : World} {base : Nat} {e : TypeId} {size n : Nat} {v : Value} {xs : List Value} (h : w.ownsRow base e size v n xs) (hb : Below w.heap.size w w1) : w1.ownsRow base e size v n xs :=
  h.kept (grown_of_below hb none) (by cases v.ownBlock <;> simp)
theorem own_slice {w : World} {base n : Nat} {e : TypeId} {size : Nat} {v : Value} {xs : List Value} (h : w.ownsRow base e size v n xs) : ∃ A c, v = .slice A n c := by
  rcases h.2 with ⟨rfl, rfl⟩ | ⟨g, cap, cur, rfl, _⟩
  · exact ⟨none, 0, rfl⟩
  · exact ⟨_, cap, rfl⟩
section
variable {P : Program} {ops : Array Oper} {rest : List Oper} {o : Oper} {a : Act} {Q : Exit → Act → World → Prop}
end
section
variable {P : Program}
end
section
variable {P : Program} {ops : Array Oper} {rest : List Oper} {o : Oper} {a : Act} {Q : Exit → Act → World → Prop}
end
def bytesOf (s : ByteArray) : List Int := s.data.toList.map fun b => (b.toNat : Int)
def LeO {α : Type} (a b : Option α) : Prop := ∀ r, a = some r → b = some r
theorem LeO.refl {α : Type} (a : Option α) : LeO a a := fun _ h => h
theorem LeO.none {α : Type} (b : Option α) : LeO Option.none b := fun _ h => by cases h
theorem LeO.trans {α : Type} {a b c : Option α} (h : LeO a b) (k : LeO b c) : LeO a c := fun r hr => k r (h r hr)
theorem LeO.bind {α β : Type} {a a' : Option α} {f f' : α → Option β} (h : LeO a a') (k : ∀ x, LeO (f x) (f' x)) : LeO (a.bind f) (a'.bind f') := by
  intro r hr
  obtain ⟨x, hx, hf⟩ := Option.bind_eq_some_iff.1 hr
  exact Option.bind_eq_some_iff.2 ⟨x, h x hx, k x r hf⟩
theorem LeO.map {α β : Type} {a a' : Option α} (f : α → β) (h : LeO a a') : LeO (a.map f) (a'.map f) := by
  intro r hr
  obtain ⟨x, hx, hf⟩ := Option.map_eq_some_iff.1 hr
  exact Option.map_eq_some_iff.2 ⟨x, h x hx, hf⟩
theorem more_rounds {α : Type} {g : Nat → Option α} (h : ∀ k, LeO (g k) (g (k + 1))) (k : Nat) : ∀ j, LeO (g k) (g (k + j))
  | 0 => LeO.refl _
  | j + 1 => (more_rounds h k j).trans (h (k + j))
theorem at_rounds {α : Type} {g : Nat → Option α} (h : ∀ k, LeO (g k) (g (k + 1))) {k k' : Nat} (hk : k ≤ k') {r : α} (hr : g k = some r) : g k' = some r := by
  have := more_rounds h k (k' - k) r hr
  rwa [Nat.add_sub_cancel' hk] at this
def Reps {α : Type} (R : α → List Value → Prop) (size : Nat) (ps : List α) (cs : List Value) : Prop :=
  cs.length = ps.length * size ∧ ∀ j p, ps[j]? = some p → R p ((cs.drop (j * size)).take size)
theorem Reps.none {α : Type} (R : α → List Value → Prop) (size : Nat) : Reps R size [] [] := ⟨by simp, fun j p h => by simp at h⟩
theorem Reps.snoc {α : Type} {R : α → List Value → Prop} {size : Nat} {ps : List α} {cs c : List Value} {p : α} (h : Reps R size ps cs) (hp : R p c) (hc : c.length = size) : Reps R size (ps ++ [p]) (cs ++ c) := by
  refine ⟨by rw [List.length_append, h.1, hc, List.length_append, List.length_singleton, Nat.add_mul, Nat.one_mul], fun j q hq => ?_⟩
  rcases Nat.lt_or_ge j ps.length with hj | hj
  · rw [List.getElem?_append_left hj] at hq
    have h1 : j * size + size ≤ cs.length := by rw [h.1, ← Nat.succ_mul]; exact Nat.mul_le_mul_right _ hj
    have h2 := h.2 j q hq
    rw [List.drop_append_of_le_length (by omega), List.take_append_of_le_length (by rw [List.length_drop]; omega)]
    exact h2
  · have hj' : j = ps.length := by
      have := (List.getElem?_eq_some_iff.1 hq).1
      rw [List.length_append, List.length_singleton] at this
      omega
    subst hj'
    have hq' : p = q := by simpa using hq
    subst hq'
    rw [← h.1, List.drop_left, ← hc, List.take_length]
    exact hp
theorem Reps.imp_ {α : Type} {R R' : α → List Value → Prop} {size : Nat} {ps : List α} {cs : List Value} (h : Reps R size ps cs) (hR : ∀ p c, R p c → R' p c) : Reps R' size ps cs := ⟨h.1, fun j p hj => hR _ _ (h.2 j p hj)⟩
def ReadsRow {α : Type} (R : α → List Value → Prop) (size : Nat) (w : World) (A : Option Addr) (n : Nat) (ps : List α) : Prop :=
  ps.length = n ∧ n ≤ 9223372036854775807 ∧ (0 < n → ∃ ad, A = some ad ∧ ∀ j p, ps[j]? = some p → ∃ c, c.length = size ∧ R p c ∧ ∀ i u, c[i]? = some u → w.cell? (ad.add (j * size + i)) = some u)
theorem ReadsRow.imp_ {α : Type} {R R' : α → List Value → Prop} {size : Nat} {w w1 : World} {A : Option Addr} {n : Nat} {ps : List α} (h : ReadsRow R size w A n ps) (hb : Below w.heap.size w w1) (hR : ∀ p c, R p c → R' p c) : ReadsRow R' size w1 A n ps :=
  ⟨h.1, h.2.1, fun hn => by
    obtain ⟨ad, e, hc⟩ := h.2.2 hn
    refine ⟨ad, e, fun j p hj => ?_⟩
    obtain ⟨c, hs, hr, hcell⟩ := hc j p hj
    exact ⟨c, hs, hR _ _ hr, fun i u hu => pw_cell_below hb (hcell i u hu)⟩⟩
theorem own_reads_row {α : Type} {R : α → List Value → Prop} {w : World} {base n size : Nat} {e : TypeId} {v : Value} {ps : List α} {cs : List Value} (h : w.ownsRow base e size v n cs) (hR : Reps R size ps cs) (hn : ps.length = n) :
    ∃ A c, v = .slice A n c ∧ ReadsRow R size w A n ps := by
  rcases Nat.eq_zero_or_pos n with h0 | h0
  · rcases h.2 with ⟨rfl, rfl⟩ | ⟨g, cap, cur, rfl, _⟩
    · exact ⟨none, 0, rfl, hn, by omega, fun hp => absurd hp (by omega)⟩
    · exact ⟨_, cap, rfl, hn, by omega, fun hp => absurd hp (by omega)⟩
  · obtain ⟨g, cap, rfl, _, _⟩ := h.form h0
    have hm : n ≤ 9223372036854775807 := by
      rcases h.2 with ⟨_, h1⟩ | ⟨g', cap', cur, he, _, _, h1, h2, _⟩
      · omega
      · simp only [maxLen] at h2
        omega
    refine ⟨_, cap, rfl, hn, hm, fun _ => ⟨_, rfl, fun j p hj => ⟨(cs.drop (j * size)).take size, ?_, hR.2 j p hj, fun i u hu => ?_⟩⟩⟩
    · have hjl := (List.getElem?_eq_some_iff.1 hj).1
      have h1 : j * size + size ≤ cs.length := by rw [hR.1, ← Nat.succ_mul]; exact Nat.mul_le_mul_right _ hjl
      rw [List.length_take, List.length_drop]
      omega
    · refine h.cells (g := g) rfl _ u ?_
      rw [List.getElem?_take] at hu
      split at hu
      · rw [List.getElem?_drop] at hu
        exact hu
      · cases hu
section
variable {P : Program} {ops : Array Oper} {rest : List Oper} {o : Oper} {a : Act} {Q : Exit → Act → World → Prop}
theorem print_append_cells {w0 W : World} (base : Nat) (hgd : o.guard = none) (s x : Operand) (t e : TypeId) (z : Value) (size bytes : Nat)
    (ho : o.op = .call { callee := .builtin .append, args := #[s, x], argTypes := #[t, t] })
    (ht : P.underlying t = some (.slice e)) (hinfo : (P.info? e).map (fun i => (i.zero, i.size, i.bytes)) = some (some z, size, bytes)) (hz : z.cells.size = size) (hs0 : 0 < size) (hb0 : 0 < bytes)
    (v : Value) (n : Nat) (xs ys : List Value) (hs : a.eval s = v) (hx : a.eval x = .slice (some ⟨W.heap.size, 0, none⟩) 1 1) (hys : ys.length = size) (h1 : ∀ u ∈ ys, u.oneCell' = true)
    (HO : W.ownsRow base e size v n xs) (HB : Below base w0 W) (hbase : base ≤ W.heap.size) (hl : (n + 1) * bytes ≤ 140737488355328)
    (h : ∀ v1 w1, w1.ownsRow base e size v1 (n + 1) (xs ++ ys) → Below base w0 w1 → W.grownBy w1 v.ownBlock → (v1.ownBlock = v.ownBlock ∨ ∃ b, v1.ownBlock = some b ∧ W.heap.size ≤ b) → wpList P ops Q rest (a.put o.dst v1) w1) :
    wpList P ops Q (o :: rest) a (W.alloc (.cells ys.toArray e)) := by
  obtain ⟨i0, hi, hzz⟩ := Option.map_eq_some_iff.1 hinfo
  simp only [Prod.mk.injEq] at hzz
  obtain ⟨hz0, hz1, hz2⟩ := hzz
  have hlen : n + 1 ≤ 140737488355328 := Nat.le_trans (Nat.le_mul_of_pos_right _ hb0) hl
  refine wpList_append_own_at (W.alloc (.cells ys.toArray e)) hgd s x t ho base e i0 z size bytes ht hi hz0 hz1 hz2 hz hs0 v n xs hs (HO.alloc _) ⟨W.heap.size, 0, none⟩ 1 1 ys hx (by rw [hys]; simp)
    (by simpa using World.news_of_block (cs := ys.toArray) (t := e) (fr := (0, 0)) (heap_alloc_new W (.cells ys.toArray e))) h1 (by simp only [maxLen]; omega) hl (by simp; omega) ?_
  intro v1 w1 hown hg _ hat
  refine h v1 w1 hown ((HB.alloc hbase _).grown hg (by simp; omega) (own_base HO)) (World.grownBy.trans (World.grownBy_alloc W _ _) hg) ?_
  rcases hat with hat | hat
  · exact .inl hat
  · exact .inr ⟨_, hat, by simp⟩
end
theorem own_ne {w : World} {base : Nat} {e t : TypeId} {size n g : Nat} {v : Value} {xs : List Value} {cs : Array Value} (h : w.ownsRow base e size v n xs) (hg : w.heap[g]? = some (.cells cs t (0, 0))) (hne : e ≠ t) : some g ≠ v.ownBlock := by
  rcases h.2 with ⟨rfl, _⟩ | ⟨g', cap, cur, rfl, _, hh, _⟩
  · simp [Value.ownBlock]
  · intro he
    have : g = g' := by simpa [Value.ownBlock] using he
    subst this
    rw [hg] at hh
    injection hh with hh
    injection hh with _ ht
    exact hne ht.symm
theorem blk_lt {w : World} {g : Nat} {o : Obj} (h : w.heap[g]? = some o) : g < w.heap.size := (Array.getElem?_eq_some_iff.1 h).1
def KeepBut (w w' : World) (g : Nat) (row : Option Nat) : Prop := w.heap.size ≤ w'.heap.size ∧ ∀ i, i < w.heap.size → i ≠ g → some i ≠ row → w'.heap[i]? = w.heap[i]?
theorem KeepBut.refl (w : World) (g : Nat) (row : Option Nat) : KeepBut w w g row := ⟨Nat.le_refl _, fun _ _ _ _ => rfl⟩
theorem KeepBut.trans {w w1 w2 : World} {g : Nat} {row row1 : Option Nat} (h : KeepBut w w1 g row) (k : KeepBut w1 w2 g row1) (hr : row1 = row ∨ ∃ b, row1 = some b ∧ w.heap.size ≤ b) : KeepBut w w2 g row :=
  ⟨Nat.le_trans h.1 k.1, fun i hi hg hn => by
    refine (k.2 i (Nat.lt_of_lt_of_le hi h.1) hg ?_).trans (h.2 i hi hg hn)
    rcases hr with rfl | ⟨b, rfl, hb⟩
    · exact hn
    · intro e
      injection e with e
      omega⟩
theorem KeepBut.blk {w w1 : World} {g g' : Nat} {row : Option Nat} {o : Obj} (h : KeepBut w w1 g row) (hb : w.heap[g']? = some o) (hg : g' ≠ g) (hr : some g' ≠ row) : w1.heap[g']? = some o := (h.2 g' (blk_lt hb) hg hr).trans hb
theorem KeepBut.own {w w1 : World} {g : Nat} {row : Option Nat} {base : Nat} {e : TypeId} {size n : Nat} {v : Value} {xs : List Value} (h : KeepBut w w1 g row) (ho : w.ownsRow base e size v n xs) (hg : v.ownBlock ≠ some g) (hr : v.ownBlock = none ∨ v.ownBlock ≠ row) : w1.ownsRow base e size v n xs := by
  obtain ⟨h1, h2⟩ := ho
  refine ⟨h1, ?_⟩
  rcases h2 with h2 | ⟨b, cap, cur, rfl, hb, hh, r⟩
  · exact .inl h2
  · refine .inr ⟨b, cap, cur, rfl, hb, h.blk hh ?_ ?_, r⟩
    · intro e
      exact hg (by rw [← e]; rfl)
    · rcases hr with hr | hr
      · simp [Value.ownBlock] at hr
      · exact hr
def Ev {α : Type} (g : Nat → Option α) (r : α) : Prop := ∃ K, ∀ k, K ≤ k → g k = some r
theorem Ev.of {α : Type} {g : Nat → Option α} {r : α} (hg : ∀ k, LeO (g k) (g (k + 1))) {k : Nat} (h : g k = some r) : Ev g r := ⟨k, fun _ hk => at_rounds hg hk h⟩
theorem Ev.bind {α β : Type} {g : Nat → Option α} {f : Nat → α → Option β} {a : α} {r : β} (h : Ev g a) (k : Ev (fun n => f n a) r) : Ev (fun n => (g n).bind (f n)) r := by
  obtain ⟨K, h⟩ := h
  obtain ⟨K', k⟩ := k
  refine ⟨max K K', fun n hn => ?_⟩
  have h1 := h n (by omega)
  have h2 := k n (by omega)
  simp only [h1, Option.bind_some]
  exact h2
theorem Ev.step {α : Type} {g f : Nat → Option α} {r : α} (h : ∀ k, g (k + 1) = f k) (k : Ev f r) : Ev g r := by
  obtain ⟨K, k⟩ := k
  refine ⟨K + 1, fun n hn => ?_⟩
  obtain ⟨m, rfl⟩ : ∃ m, n = m + 1 := ⟨n - 1, by omega⟩
  rw [h]
  exact k m (by omega)
theorem Ev.congr {α : Type} {g f : Nat → Option α} {r : α} (h : ∀ k, g k = f k) (k : Ev f r) : Ev g r := by
  obtain ⟨K, k⟩ := k
  exact ⟨K, fun n hn => (h n).trans (k n hn)⟩
section
variable {P : Program} {ops : Array Oper} {o : Oper} {a : Act} {Q : Exit → Act → World → Prop} {K : Act → World → Prop}
end
theorem own_weaken {w : World} {base base' : Nat} {e : TypeId} {size n : Nat} {v : Value} {xs : List Value} (h : w.ownsRow base e size v n xs) (hb : base' ≤ base) : w.ownsRow base' e size v n xs := by
  obtain ⟨h1, h2⟩ := h
  refine ⟨h1, ?_⟩
  rcases h2 with h2 | ⟨g, cap, cur, rfl, hg, r⟩
  · exact .inl h2
  · exact .inr ⟨g, cap, cur, rfl, Nat.le_trans hb hg, r⟩
section
variable {α : Type} {enc : α → Value} {d : α}
def ReadsOf (enc : α → Value) (d : α) (w : World) (A : Option Addr) (n : Nat) (xs : List α) : Prop :=
  xs.length = n ∧ n ≤ 9223372036854775807 ∧ (0 < n → ∃ ad, A = some ad ∧ ∀ j, j < n → w.cell? (ad.add j) = some (enc (xs.getD j d)))
theorem ReadsOf.below {w w1 : World} {A : Option Addr} {n : Nat} {xs : List α} (h : ReadsOf enc d w A n xs) (hb : Below w.heap.size w w1) : ReadsOf enc d w1 A n xs :=
  ⟨h.1, h.2.1, fun hn => by
    obtain ⟨ad, e, hc⟩ := h.2.2 hn
    exact ⟨ad, e, fun j hj => pw_cell_below hb (hc j hj)⟩⟩
end
section
variable {α : Type} {P : Program} {ops : Array Oper} {rest : List Oper} {o : Oper} {a : Act} {Q : Exit → Act → World → Prop}
end
section
variable {P : Program}
end
theorem own_le {w : World} {base n m c size : Nat} {e : TypeId} {A : Option Addr} {xs : List Value} (h : w.ownsRow base e size (.slice A m c) n xs) : m ≤ c := by
  rcases h.2 with ⟨he, _⟩ | ⟨g, cap, cur, he, _, _, hnc, _⟩
  · injection he with _ h2 h3
    omega
  · injection he with _ h2 h3
    omega
def OwnRow {α : Type} (R : α → List Value → Prop) (e : TypeId) (size : Nat) (w : World) (base : Nat) (v : Value) (ps : List α) : Prop :=
  ∃ inner, w.ownsRow base e size v ps.length inner ∧ Reps R size ps inner
section
variable {α : Type} {R R' : α → List Value → Prop} {e : TypeId} {size : Nat} {w w1 : World} {base : Nat} {v : Value} {ps : List α}
theorem OwnRow.none_ (R : α → List Value → Prop) (e : TypeId) (size : Nat) (w : World) (base : Nat) : OwnRow R e size w base (.slice none 0 0) [] := ⟨[], own_nil _ _ _ _, Reps.none _ _⟩
theorem OwnRow.imp_ (h : OwnRow R e size w base v ps) (hR : ∀ p c, R p c → R' p c) : OwnRow R' e size w base v ps := by
  obtain ⟨inner, ho, hr⟩ := h
  exact ⟨inner, ho, hr.imp_ hR⟩
theorem OwnRow.below (h : OwnRow R e size w base v ps) (hb : Below w.heap.size w w1) : OwnRow R e size w1 base v ps := by
  obtain ⟨inner, ho, hr⟩ := h
  exact ⟨inner, pw_own_below ho hb, hr⟩
theorem OwnRow.keep (h : OwnRow R e size w base v ps) {g : Nat} {t : TypeId} {cells : Array Value} (hb : w.heap[g]? = some (.cells cells t (0, 0))) (ht : e ≠ t) (hk : KeepBut w w1 g none) : OwnRow R e size w1 base v ps := by
  obtain ⟨inner, ho, hr⟩ := h
  exact ⟨inner, hk.own ho (Ne.symm (own_ne ho hb ht)) (by cases v.ownBlock <;> simp), hr⟩
theorem OwnRow.reads (h : OwnRow R e size w base v ps) : ∃ A c, v = .slice A ps.length c ∧ ps.length ≤ c ∧ ReadsRow R size w A ps.length ps := by
  obtain ⟨inner, ho, hr⟩ := h
  obtain ⟨A, c, rfl, hrow⟩ := own_reads_row ho hr rfl
  exact ⟨A, c, rfl, own_le ho, hrow⟩
theorem OwnRow.lit (W : World) (base : Nat) {inner : List Value} (hr : Reps R size ps inner) (hb : base ≤ W.heap.size) (hm : ps.length ≤ 9223372036854775807) :
    OwnRow R e size (W.alloc (.cells inner.toArray e)) base (.slice (some ⟨W.heap.size, 0, none⟩) ps.length ps.length) ps := by
  have h := World.ownsRow_lit (base := base) (e := e) (size := size) W inner.toArray ps.length hb (by simpa [maxLen] using hm) (by simpa using hr.1)
  exact ⟨inner, by simpa using h, hr⟩
end
section
variable {P : Program} {ops : Array Oper} {rest : List Oper} {o : Oper} {a : Act} {Q : Exit → Act → World → Prop} {α : Type} {R : α → List Value → Prop}
theorem OwnRow.append {w0 W : World} (base : Nat) (hgd : o.guard = none) (s x : Operand) (t e : TypeId) (z : Value) (size bytes : Nat)
    (ho : o.op = .call { callee := .builtin .append, args := #[s, x], argTypes := #[t, t] })
    (ht : P.underlying t = some (.slice e)) (hinfo : (P.info? e).map (fun i => (i.zero, i.size, i.bytes)) = some (some z, size, bytes)) (hz : z.cells.size = size) (hs0 : 0 < size) (hb0 : 0 < bytes)
    (v : Value) (ps : List α) (p : α) (cs : List Value) (hs : a.eval s = v) (hx : a.eval x = .slice (some ⟨W.heap.size, 0, none⟩) 1 1) (hp : R p cs) (hcs : cs.length = size) (h1 : ∀ u ∈ cs, u.oneCell' = true)
    (HO : OwnRow R e size W base v ps) (HB : Below base w0 W) (hbase : base ≤ W.heap.size) (hl : (ps.length + 1) * bytes ≤ 140737488355328)
    (h : ∀ v1 w1, OwnRow R e size w1 base v1 (ps ++ [p]) → Below base w0 w1 → W.grownBy w1 v.ownBlock → (v1.ownBlock = v.ownBlock ∨ ∃ b, v1.ownBlock = some b ∧ W.heap.size ≤ b) → wpList P ops Q rest (a.put o.dst v1) w1) :
    wpList P ops Q (o :: rest) a (W.alloc (.cells cs.toArray e)) := by
  obtain ⟨inner, hown, hr⟩ := HO
  refine print_append_cells base hgd s x t e z size bytes ho ht hinfo hz hs0 hb0 v ps.length inner cs hs hx hcs h1 hown HB hbase hl ?_
  intro v1 w1 hown1 hb1 hg1 hat1
  exact h v1 w1 ⟨inner ++ cs, by rw [List.length_append, List.length_singleton]; exact hown1, hr.snoc hp hcs⟩ hb1 hg1 hat1
end
section
variable {P : Program} {ops : Array Oper} {o : Oper} {a : Act} {Q : Exit → Act → World → Prop} {K : Act → World → Prop} {α : Type} {R : α → List Value → Prop}
end
section
variable {α : Type} {P : Program}
theorem ReadsOf.len_ {enc : α → Value} {d : α} {w : World} {A : Option Addr} {n : Nat} {xs : List α} (h : ReadsOf enc d w A n xs) : ReadsOf enc d w A xs.length xs := by rw [h.1]; exact h
end
section
variable {P : Program} {ops : Array Oper} {rest : List Oper} {o : Oper} {a : Act} {Q : Exit → Act → World → Prop}
end
structure Kd (α : Type) where
  sz : Nat
  E : List Nat
  K : World → α → List Value → Prop
  M : World → Nat → (Nat → Prop) → α → List Value → Prop
  K_len : ∀ {w x cs}, K w x cs → cs.length = sz
  K_one : ∀ {w x cs}, K w x cs → ∀ u ∈ cs, u.oneCell' = true
  K_below : ∀ {w w1 : World} {x cs}, Below w.heap.size w w1 → K w x cs → K w1 x cs
  K_of_M : ∀ {w base ok x cs}, M w base ok x cs → K w x cs
  M_mono : ∀ {w base ok ok' x cs}, (∀ k, ok k → ok' k) → M w base ok x cs → M w base ok' x cs
  M_bound : ∀ {w : World} {base ok x cs}, M w base ok x cs → M w base (fun k => ok k ∧ base ≤ k ∧ k < w.heap.size ∧ ∃ q, q ∈ E ∧ ∃ cells, w.heap[k]? = some (.cells cells q (0, 0))) x cs
  M_move : ∀ {w w1 : World} {base ok x cs}, (∀ k, ok k → w1.heap[k]? = w.heap[k]?) → M w base ok x cs → M w1 base ok x cs
  M_lower : ∀ {w base base' ok x cs}, base' ≤ base → M w base ok x cs → M w base' ok x cs
theorem own_move {w w1 : World} {base : Nat} {e : TypeId} {size n : Nat} {v : Value} {xs : List Value} (h : w.ownsRow base e size v n xs) (hm : ∀ k, v.ownBlock = some k → w1.heap[k]? = w.heap[k]?) : w1.ownsRow base e size v n xs := by
  obtain ⟨h1, h2⟩ := h
  refine ⟨h1, ?_⟩
  rcases h2 with h2 | ⟨g, cap, cur, rfl, hg, hh, r⟩
  · exact .inl h2
  · exact .inr ⟨g, cap, cur, rfl, hg, (hm g (by simp [Value.ownBlock])).trans hh, r⟩
theorem own_typed {w : World} {base : Nat} {e : TypeId} {size n : Nat} {v : Value} {xs : List Value} (h : w.ownsRow base e size v n xs) (k : Nat) (hk : v.ownBlock = some k) : ∃ cells, w.heap[k]? = some (.cells cells e (0, 0)) := by
  rcases h.2 with ⟨rfl, _⟩ | ⟨g, cap, cur, rfl, hg, hh, r⟩
  · simp [Value.ownBlock] at hk
  · have : g = k := by simpa [Value.ownBlock] using hk
    subst this
    exact ⟨cur, hh⟩
namespace Kd
def C {α : Type} (d : Kd α) (w : World) (A : Option Addr) (n : Nat) (xs : List α) : Prop := ReadsRow (d.K w) d.sz w A n xs
def R {α : Type} (d : Kd α) (e : Nat) (w : World) (base : Nat) (ok : Nat → Prop) (v : Value) (xs : List α) : Prop :=
  (∀ k, v.ownBlock = some k → ok k) ∧ OwnRow (d.M w base (fun k => ok k ∧ some k ≠ v.ownBlock)) e d.sz w base v xs
section
variable {α : Type} {d : Kd α} {e : Nat} {w w1 : World} {base : Nat} {ok ok' : Nat → Prop} {v : Value} {xs : List α}
theorem C_below {A : Option Addr} {n : Nat} (h : d.C w A n xs) (hb : Below w.heap.size w w1) : d.C w1 A n xs := ReadsRow.imp_ h hb (fun _ _ hp => d.K_below hb hp)
theorem R_mono (h : d.R e w base ok v xs) (hok : ∀ k, ok k → ok' k) : d.R e w base ok' v xs := ⟨fun k hk => hok k (h.1 k hk), h.2.imp_ (fun _ _ hp => d.M_mono (fun k hk => ⟨hok k hk.1, hk.2⟩) hp)⟩
theorem R_bound (h : d.R e w base ok v xs) : d.R e w base (fun k => ok k ∧ base ≤ k ∧ k < w.heap.size ∧ ∃ q, q ∈ e :: d.E ∧ ∃ cells, w.heap[k]? = some (.cells cells q (0, 0))) v xs := by
  obtain ⟨h0, inner, ho, hr⟩ := h
  refine ⟨fun k hk => ?_, inner, ho, hr.imp_ (fun _ _ hp => d.M_mono (fun k hk => ?_) (d.M_bound hp))⟩
  · obtain ⟨cells, hc⟩ := own_typed ho k hk
    exact ⟨h0 k hk, own_base ho k hk, own_lt ho k hk, e, List.mem_cons_self, cells, hc⟩
  · obtain ⟨⟨h1, h2⟩, h3, h4, q, hq, hc⟩ := hk
    exact ⟨⟨h1, h3, h4, q, List.mem_cons_of_mem _ hq, hc⟩, h2⟩
theorem R_move (h : d.R e w base ok v xs) (hm : ∀ k, ok k → w1.heap[k]? = w.heap[k]?) : d.R e w1 base ok v xs := by
  obtain ⟨h0, inner, ho, hr⟩ := h
  exact ⟨h0, inner, own_move ho (fun k hk => hm k (h0 k hk)), hr.imp_ (fun _ _ hp => d.M_move (fun k hk => hm k hk.1) hp)⟩
theorem R_lower {base' : Nat} (h : d.R e w base ok v xs) (hb : base' ≤ base) : d.R e w base' ok v xs := by
  obtain ⟨h0, inner, ho, hr⟩ := h
  exact ⟨h0, inner, own_weaken ho hb, hr.imp_ (fun _ _ hp => d.M_lower hb hp)⟩
theorem R_reads (h : d.R e w base ok v xs) : ∃ A c, v = .slice A xs.length c ∧ xs.length ≤ c ∧ d.C w A xs.length xs := by
  obtain ⟨A, c, he, hl, hr⟩ := OwnRow.reads h.2
  exact ⟨A, c, he, hl, hr.imp_ (Below.refl _ _) (fun _ _ hp => d.K_of_M hp)⟩
end
def scalar {α : Type} (enc : α → Value) (h1 : ∀ x, (enc x).oneCell' = true) : Kd α where
  sz := 1
  E := []
  K := fun _ x cs => cs = [enc x]
  M := fun _ _ _ x cs => cs = [enc x]
  K_len := fun h => by rw [h]; rfl
  K_one := fun h u hu => by
    rw [h] at hu
    rw [List.mem_singleton.1 hu]
    exact h1 _
  K_below := fun _ h => h
  K_of_M := fun h => h
  M_mono := fun _ h => h
  M_bound := fun h => h
  M_move := fun _ h => h
  M_lower := fun _ h => h
def int (k : IntKind) : Kd Int := scalar (Value.int k) (fun _ => rfl)
def bool : Kd Bool := scalar Value.bool (fun _ => rfl)
def string : Kd ByteArray := scalar Value.string (fun _ => rfl)
def slice {α : Type} (e : Nat) (d : Kd α) : Kd (List α) where
  sz := 1
  E := e :: d.E
  K := fun w xs cs => ∃ A c, cs = [.slice A xs.length c] ∧ xs.length ≤ c ∧ d.C w A xs.length xs
  M := fun w base ok xs cs => ∃ v, cs = [v] ∧ d.R e w base ok v xs
  K_len := by
    rintro w x cs ⟨A, c, rfl, _⟩
    rfl
  K_one := by
    rintro w x cs ⟨A, c, rfl, _⟩ u hu
    rw [List.mem_singleton.1 hu]
    rfl
  K_below := by
    rintro w w1 x cs hb ⟨A, c, rfl, hl, hr⟩
    exact ⟨A, c, rfl, hl, C_below hr hb⟩
  K_of_M := by
    rintro w base ok x cs ⟨v, rfl, h⟩
    obtain ⟨A, c, rfl, hl, hr⟩ := R_reads h
    exact ⟨A, c, rfl, hl, hr⟩
  M_mono := by
    rintro w base ok ok' x cs hok ⟨v, rfl, h⟩
    exact ⟨v, rfl, R_mono h hok⟩
  M_bound := by
    rintro w base ok x cs ⟨v, rfl, h⟩
    exact ⟨v, rfl, R_bound h⟩
  M_move := by
    rintro w w1 base ok x cs hm ⟨v, rfl, h⟩
    exact ⟨v, rfl, R_move h hm⟩
  M_lower := by
    rintro w base base' ok x cs hb ⟨v, rfl, h⟩
    exact ⟨v, rfl, R_lower h hb⟩
def pair {α β : Type} (a : Kd α) (b : Kd β) : Kd (α × β) where
  sz := a.sz + b.sz
  E := a.E ++ b.E
  K := fun w x cs => ∃ c0 c1, cs = c0 ++ c1 ∧ a.K w x.1 c0 ∧ b.K w x.2 c1
  M := fun w base ok x cs => ∃ c0 c1, cs = c0 ++ c1 ∧ a.M w base ok x.1 c0 ∧ b.M w base ok x.2 c1
  K_len := by
    rintro w x cs ⟨c0, c1, rfl, h0, h1⟩
    rw [List.length_append, a.K_len h0, b.K_len h1]
  K_one := by
    rintro w x cs ⟨c0, c1, rfl, h0, h1⟩ u hu
    rcases List.mem_append.1 hu with hu | hu
    · exact a.K_one h0 u hu
    · exact b.K_one h1 u hu
  K_below := by
    rintro w w1 x cs hb ⟨c0, c1, rfl, h0, h1⟩
    exact ⟨c0, c1, rfl, a.K_below hb h0, b.K_below hb h1⟩
  K_of_M := by
    rintro w base ok x cs ⟨c0, c1, rfl, h0, h1⟩
    exact ⟨c0, c1, rfl, a.K_of_M h0, b.K_of_M h1⟩
  M_mono := by
    rintro w base ok ok' x cs hok ⟨c0, c1, rfl, h0, h1⟩
    exact ⟨c0, c1, rfl, a.M_mono hok h0, b.M_mono hok h1⟩
  M_bound := by
    rintro w base ok x cs ⟨c0, c1, rfl, h0, h1⟩
    refine ⟨c0, c1, rfl, a.M_mono ?_ (a.M_bound h0), b.M_mono ?_ (b.M_bound h1)⟩
    · rintro k ⟨h2, h3, h4, q, hq, hc⟩
      exact ⟨h2, h3, h4, q, List.mem_append_left _ hq, hc⟩
    · rintro k ⟨h2, h3, h4, q, hq, hc⟩
      exact ⟨h2, h3, h4, q, List.mem_append_right _ hq, hc⟩
  M_move := by
    rintro w w1 base ok x cs hm ⟨c0, c1, rfl, h0, h1⟩
    exact ⟨c0, c1, rfl, a.M_move hm h0, b.M_move hm h1⟩
  M_lower := by
    rintro w base base' ok x cs hb ⟨c0, c1, rfl, h0, h1⟩
    exact ⟨c0, c1, rfl, a.M_lower hb h0, b.M_lower hb h1⟩
def iso {α β : Type} (d : Kd α) (f : β → α) : Kd β where
  sz := d.sz
  E := d.E
  K := fun w x cs => d.K w (f x) cs
  M := fun w base ok x cs => d.M w base ok (f x) cs
  K_len := d.K_len
  K_one := d.K_one
  K_below := d.K_below
  K_of_M := d.K_of_M
  M_mono := d.M_mono
  M_bound := d.M_bound
  M_move := d.M_move
  M_lower := d.M_lower
def bot {α : Type} (sz : Nat) (E : List Nat) : Kd α where
  sz := sz
  E := E
  K := fun _ _ _ => False
  M := fun _ _ _ _ _ => False
  K_len := fun h => h.elim
  K_one := fun h => h.elim
  K_below := fun _ h => h
  K_of_M := fun h => h
  M_mono := fun _ h => h
  M_bound := fun h => h
  M_move := fun _ h => h
  M_lower := fun _ h => h
def upto {α : Type} (F : Kd α → Kd α) (sz : Nat) (E : List Nat) : Nat → Kd α
  | 0 => bot sz E
  | n + 1 => F (upto F sz E n)
section
variable {P : Program} {ops : Array Oper} {rest : List Oper} {o : Oper} {a : Act} {Q : Exit → Act → World → Prop} {α : Type}
end
section
variable {P : Program} {ops : Array Oper} {o : Oper} {a : Act} {Q : Exit → Act → World → Prop} {Kc : Act → World → Prop} {α : Type}
end
end Kd
namespace Kd
structure Mono {α β : Type} (F : Kd α → Kd β) : Prop where
  sz : ∀ d d' : Kd α, d.sz = d'.sz → (F d).sz = (F d').sz
  K : ∀ d d' : Kd α, d.sz = d'.sz → (∀ w x cs, d.K w x cs → d'.K w x cs) → ∀ w x cs, (F d).K w x cs → (F d').K w x cs
  M : ∀ d d' : Kd α, d.sz = d'.sz → (∀ w base ok x cs, d.M w base ok x cs → d'.M w base ok x cs) → ∀ w base ok x cs, (F d).M w base ok x cs → (F d').M w base ok x cs
section
variable {α : Type} {F : Kd α → Kd α} {sz : Nat} {E : List Nat} {hs : ∀ n, (upto F sz E n).sz = sz} {hE : ∀ n q, q ∈ (upto F sz E n).E → q ∈ E}
end
end Kd
namespace Kd
end Kd
namespace Kd
section
variable {α β : Type} {d : Kd α} {d' : Kd β} {e e' : Nat} {w w1 W : World} {base b b' : Nat} {ok ok' okv oku : Nat → Prop} {v u : Value} {xs : List α} {ys : List β}
theorem C_nil (d : Kd α) (w : World) : d.C w none ([] : List α).length [] := ⟨rfl, by simp, fun h => absurd h (Nat.lt_irrefl 0)⟩
end
section
variable {w W : World} {A : Option Addr} {n : Nat}
variable {α : Type} {enc : α → Value} {h1 : ∀ x, (enc x).oneCell' = true} {e base g cap : Nat} {ok : Nat → Prop} {xs : List α}
end
section
variable {P : Program} {ops : Array Oper} {rest : List Oper} {o : Oper} {a : Act} {Q : Exit → Act → World → Prop}
variable {α : Type}
end
end Kd
section
variable {P : Program}
end
def QRow (w : World) (base : Nat) (e : TypeId) (size : Nat) (v : Value) (n : Nat) (xs : List Value) : Prop :=
  xs.length = n * size ∧
  ((n = 0 ∧ ∃ A, v = .slice A 0 0 ∧ ∀ a, A = some a → base ≤ a.block ∧ ∃ cur, w.heap[a.block]? = some (.cells cur e (0, 0))) ∨
   ∃ g off cap cur, v = .slice (some ⟨g, off * size, none⟩) n cap ∧ base ≤ g ∧ w.heap[g]? = some (.cells cur e (0, 0)) ∧ n ≤ cap ∧ off + cap ≤ maxLen ∧ cur.size = (off + cap) * size ∧ (cur.toList.drop (off * size)).take (n * size) = xs)
section
variable {w w1 : World} {base n size : Nat} {e : TypeId} {v : Value} {xs : List Value}
end
section
variable {P : Program}
end
namespace Kd
def Q {α : Type} (d : Kd α) (e : Nat) (w : World) (base : Nat) (ok : Nat → Prop) (v : Value) (xs : List α) : Prop :=
  (∀ k, v.ownBlock = some k → ok k) ∧ ∃ inner, QRow w base e d.sz v xs.length inner ∧ Reps (d.M w base (fun k => ok k ∧ some k ≠ v.ownBlock)) d.sz xs inner
section
variable {α : Type} {d : Kd α} {e : Nat} {w w1 W : World} {base : Nat} {ok ok' : Nat → Prop} {v : Value} {xs : List α}
end
section
variable {P : Program} {ops : Array Oper} {rest : List Oper} {o : Oper} {a : Act} {Q' : Exit → Act → World → Prop} {Kc : Act → World → Prop} {α : Type}
end
end Kd
namespace Kd
section
variable {α : Type} {d : Kd α} {e e' : Nat} {w w1 W : World} {base : Nat} {ok : Nat → Prop} {u v : Value} {xs : List α}
end
end Kd
namespace Kd
section
variable {α : Type} {d : Kd α} {e base g n cap : Nat} {ok okp : Nat → Prop} {W : World} {xs : List α}
end
end Kd
namespace Kd
section
variable {α : Type} {F : Kd α → Kd α} {sz : Nat} {E : List Nat} {hs : ∀ n, (upto F sz E n).sz = sz} {hE : ∀ n q, q ∈ (upto F sz E n).E → q ∈ E}
end
end Kd
namespace Kd
section
variable {P : Program} {ops : Array Oper} {rest : List Oper} {o : Oper} {a : Act} {Q : Exit → Act → World → Prop} {α : Type}
end
end Kd
namespace Kd
section
variable {P : Program} {ops : Array Oper} {rest : List Oper} {o : Oper} {a : Act} {Q : Exit → Act → World → Prop} {α : Type}
end
end Kd
theorem add_add (a : Addr) (i j : Nat) : (a.add i).add j = a.add (i + j) := by
  unfold Addr.add
  by_cases h1 : i = 0 <;> by_cases h2 : j = 0 <;> simp [h1, h2, Nat.add_assoc]
namespace Kd
section
variable {α : Type} {k : Kd α} {w : World} {A : Option Addr} {xs : List α} {m c : Nat}
end
end Kd
section
variable {P : Program}
end
theorem ReadsInt.nil (W : World) (k : IntKind) : ReadsInt W k none ([] : List Int).length [] := ⟨rfl, by simp, fun h => absurd h (Nat.lt_irrefl 0)⟩
theorem ReadsInt.drewN {W : World} {k : IntKind} {A : Option Addr} {n : Nat} {xs : List Int} (h : ReadsInt W k A n xs) (m : Nat) : ReadsInt (W.drewN m) k A n xs := h
theorem keep_cell {w W : World} {g : Nat} (h : KeepBut w W g none) {a : Addr} {v : Value} (hc : w.cell? a = some v) (hne : a.block ≠ g) : W.cell? a = some v := by
  have := h.2 a.block (World.block_lt_of_cell? w a hc) hne (by simp)
  simpa [World.cell?, this] using hc
theorem add_block (a : Addr) (i : Nat) : (a.add i).block = a.block := by unfold Addr.add; split <;> rfl
theorem ReadsOf.nil {α : Type} (enc : α → Value) (d : α) (W : World) : ReadsOf enc d W none ([] : List α).length [] := ⟨rfl, by simp, fun h => absurd h (Nat.lt_irrefl 0)⟩
theorem ReadsOf.drewN {α : Type} {enc : α → Value} {d : α} {W : World} {A : Option Addr} {n : Nat} {xs : List α} (h : ReadsOf enc d W A n xs) (m : Nat) : ReadsOf enc d (W.drewN m) A n xs := h
theorem ReadsInt.keep {w W : World} {k : IntKind} {A : Option Addr} {n g : Nat} {xs : List Int} (h : ReadsInt w k A n xs) (hk : KeepBut w W g none) (hf : ∀ ad, A = some ad → 0 < n → ad.block ≠ g) : ReadsInt W k A n xs :=
  ⟨h.1, h.2.1, fun hn => by
    obtain ⟨ad, e, hc⟩ := h.2.2 hn
    exact ⟨ad, e, fun j hj => keep_cell hk (hc j hj) (by rw [add_block]; exact hf ad e hn)⟩⟩
theorem ReadsOf.keep {α : Type} {enc : α → Value} {d : α} {w W : World} {A : Option Addr} {n g : Nat} {xs : List α} (h : ReadsOf enc d w A n xs) (hk : KeepBut w W g none) (hf : ∀ ad, A = some ad → 0 < n → ad.block ≠ g) : ReadsOf enc d W A n xs :=
  ⟨h.1, h.2.1, fun hn => by
    obtain ⟨ad, e, hc⟩ := h.2.2 hn
    exact ⟨ad, e, fun j hj => keep_cell hk (hc j hj) (by rw [add_block]; exact hf ad e hn)⟩⟩
namespace Kd
section
variable {α β : Type} {d : Kd α} {d' : Kd β} {e e' base base' n : Nat} {ok ok' : Nat → Prop} {w W w1 W1 : World} {v u : Value} {xs : List α} {ys : List β} {A : Option Addr} {c : Nat}
end
section
variable {α : Type} {enc : α → Value} {h1 : ∀ x, (enc x).oneCell' = true} {w W : World} {A : Option Addr} {n g : Nat} {xs : List α}
end
end Kd
namespace Kd
section
variable {α : Type} {d : Kd α} {e base g : Nat} {ok : Nat → Prop} {w w1 : World} {v : Value} {xs : List α} {o : Obj}
end
end Kd
section
variable {P : Program} {ops : Array Oper} {rest : List Oper} {o : Oper} {a : Act} {Q : Exit → Act → World → Prop}
end
namespace Kd
section
variable {α : Type} {enc : α → Value} {h1 : ∀ x, (enc x).oneCell' = true} {e base g n cap : Nat} {ok : Nat → Prop} {W : World} {xs : List α}
end
end Kd
section
variable {P : Program} {ops : Array Oper} {rest : List Oper} {o : Oper} {a : Act} {Q : Exit → Act → World → Prop}
end
namespace Kd
section
variable {α : Type} {enc : α → Value} {h1 : ∀ x, (enc x).oneCell' = true} {e base g n cap : Nat} {ok : Nat → Prop} {W : World} {xs : List α}
end
end Kd
section
variable {P : Program} {ops : Array Oper} {rest : List Oper} {o : Oper} {a : Act} {Q : Exit → Act → World → Prop} {W : World}
end
section
variable {P : Program} {ops : Array Oper} {o : Oper} {a : Act} {Q : Exit → Act → World → Prop} {Kc : Act → World → Prop}
namespace Kd
variable {α : Type}
end Kd
end
section
variable {P : Program} {tmps : Array Value} {w : World}
end
namespace Kd
section
variable {P : Program} {α : Type}
end
section
variable {P : Program} {ops : Array Oper} {rest : List Oper} {o : Oper} {a : Act} {Q : Exit → Act → World → Prop} {Kc : Act → World → Prop} {α : Type}
end
end Kd
end Go.Proofs.YtdfgdpjlbcnkfaaDoorW.PrintWords
namespace Go.Proofs.YtdfgdpjlbcnkfaaDoor.Q
open Go Go.Proofs.YtdfgdpjlbcnkfaaDoorAbs Go.Proofs Go.RowKit Go.Proofs.YtdfgdpjlbcnkfaaDoorW.PrintWords
set_option linter.unusedVariables false
set_option linter.unusedSimpArgs false
def TabMet (w : World) : Prop := ∀ (j : Nat) (v : Value), tab64[j]? = some v → w.cell? ⟨6, j, none⟩ = some v
theorem u8_of (l : List Int) (h : ∀ x ∈ l, 0 ≤ x ∧ x < 256) : l.map (Value.int .u8) = u8v (l.map fun x => x.toNat.toUInt8) := by
  simp only [u8v, List.map_map]
  refine List.map_congr_left fun x hx => ?_
  obtain ⟨h1, h2⟩ := h x hx
  simp only [Function.comp]
  congr 1
  rw [Nat.toUInt8_eq, UInt8.toNat_ofNat']
  omega
theorem row_cells {α : Type} {d : Kd α} {f : α → Value} {w : World} {A : Option Addr} {l : List α} (hsz : d.sz = 1) (hK : ∀ x c, d.K w x c → c = [f x]) (h : Kd.C d w A l.length l) : 0 < l.length → ∃ ad, A = some ad ∧ ∀ (j : Nat) (v : Value), (l.map f)[j]? = some v → w.cell? (ad.add j) = some v := fun hp => by
  obtain ⟨ad, e, hc⟩ := h.2.2 hp
  refine ⟨ad, e, fun j v hj => ?_⟩
  rw [List.getElem?_map] at hj
  obtain ⟨x, hx, rfl⟩ := Option.map_eq_some_iff.1 hj
  obtain ⟨c, h1, h2, h3⟩ := hc j x hx
  have := h3 0 (f x) (by rw [hK x c h2]; rfl)
  rwa [hsz, Nat.mul_one, Nat.add_zero] at this
theorem start64 {w : World} (hT : TabMet w) (hG : 7 < w.heap.size) : Go.Proofs.YtdfgdpjlbcnkfaaDoorAbs.Start Tryd.prog (Ren.start 7) (St.start 7 gl64) w := by
  have st0 : Go.Proofs.YtdfgdpjlbcnkfaaDoorAbs.Start Tryd.prog (Ren.start Tryd.prog.globals.size) (St.start Tryd.prog.globals.size gl64) w := by
    refine start0 gl64 (by rw [nglob]; exact hG) fun g cs hg hgl j v hj => ?_
    unfold gl64 at hgl
    split at hgl
    · cases hgl
      refine ⟨v, hT j v hj, .leaf _ ?_⟩
      have : tab64.all leaf = true := by decide
      rw [List.all_eq_true] at this
      exact this v (List.mem_of_getElem? hj)
    · cases hgl
  rwa [nglob] at st0
theorem row_leaf {w : World} {ρ : Ren} {k : IntKind} {A : Option Addr} {l : List Int} (h : Kd.C (Kd.int k) w A l.length l) (hp : 0 < l.length) : ∃ ad, A = some ad ∧ ∀ (j : Nat) (v : Value), (l.map (Value.int k))[j]? = some v → ∃ v', w.cell? (ad.add j) = some v' ∧ VR ρ v v' := by
  obtain ⟨ad, e, hc⟩ := row_cells (f := Value.int k) rfl (fun x c hk => hk) h hp
  refine ⟨ad, e, fun j v hj => ⟨v, hc j v hj, .leaf _ ?_⟩⟩
  rw [List.getElem?_map] at hj
  obtain ⟨x, _, rfl⟩ := Option.map_eq_some_iff.1 hj
  rfl
end Go.Proofs.YtdfgdpjlbcnkfaaDoor.Q
namespace Go.Proofs.YtdfgdpjlbcnkfaaDoorW.PrintLast
section
variable {P : Program} {ops : Array Oper} {Q : Exit → Act → World → Prop} {md : Region.Mode} {S : World → Prop} {ds : List Nat}
def Region.reachB (md : Region.Mode) (ops : Array Oper) (i : Nat) : Nat → Nat → Bool
  | 0, _ => false
  | fuel + 1, d => match ops[d]? with
    | some o => o.after.any fun e => Region.binds md e && (e.on == i || Region.reachB md ops i fuel e.on)
    | none => false
def Region.lastB (md : Region.Mode) (ops : Array Oper) (listed : Array Bool) (ds : List Nat) (i : Nat) : Bool :=
  ds.all fun d => listed.getD d true || Region.reachB md ops i ops.size d
def ListedClosed (md : Region.Mode) (ops : Array Oper) (listed : Array Bool) : Prop :=
  ∀ j oj, ops[j]? = some oj → listed.getD j false = true → ∀ e ∈ oj.after, Region.binds md e = true → listed.getD e.on false = true
theorem ListedClosed.set {listed : Array Bool} {i : Nat} (h : ListedClosed md ops listed) (hi : i ∈ Region.ready md ops listed) : ListedClosed md ops (listed.setIfInBounds i true) := by
  obtain ⟨_, oi, hoi, hall⟩ := mem_ready.1 hi
  intro j oj hj hl e he hb
  by_cases hij : i = j
  · subst hij
    have : oj = oi := Option.some.inj (hj.symm.trans hoi)
    subst this
    exact getD_set_true (hall e he hb)
  · rw [getD_set_ne false hij] at hl
    exact getD_set_true (h j oj hj hl e he hb)
def wpAnyLast (P : Program) (md : Region.Mode) (ops : Array Oper) (Q : Exit → Act → World → Prop) (S : World → Prop) (ds : List Nat) : Nat → Array Bool → Act → World → Prop
  | 0, listed, a, w => Region.ready md ops listed = [] ∧ Q .normal a w
  | fuel + 1, listed, a, w =>
    (Region.ready md ops listed = [] → Q .normal a w) ∧
    ∀ i ∈ Region.ready md ops listed, wpOp P ops Q i (fun a' w' => (i ∉ ds → S w → S w') ∧ wpAnyLast P md ops Q S ds fuel (listed.setIfInBounds i true) a' w') a w
end
section
variable {P : Program} {ops : Array Oper} {Q : Exit → Act → World → Prop} {md : Region.Mode} {S : World → Prop} {ds : List Nat}
def AllReadyL (P : Program) (md : Region.Mode) (ops : Array Oper) (Q : Exit → Act → World → Prop) (S : World → Prop) (ds : List Nat) (fuel : Nat) (listed : Array Bool) (a : Act) (w : World) (rs : List Nat) : Prop :=
  ∀ i ∈ rs, wpOp P ops Q i (fun a' w' => (i ∉ ds → S w → S w') ∧ wpAnyLast P md ops Q S ds fuel (listed.setIfInBounds i true) a' w') a w
theorem AllReadyL.nil {fuel : Nat} {listed : Array Bool} {a : Act} {w : World} : AllReadyL P md ops Q S ds fuel listed a w [] := fun _ h => by cases h
theorem AllReadyL.cons {fuel : Nat} {listed : Array Bool} {a : Act} {w : World} {i : Nat} {o : Oper} {rs : List Nat} (ho : ops[i]? = some o) (hd : i ∉ ds)
    (h : ∀ K' : Act → World → Prop, Shut (∀ a w, S w → (S w → wpAnyLast P md ops Q S ds fuel (listed.setIfInBounds i true) a w) → K' a w) → if Region.wanted o (yielded ops a.tmps) = true then Oper.wp P o a w K' Q else K' (a.put o.dst undef) w)
    (hs : AllReadyL P md ops Q S ds fuel listed a w rs) : AllReadyL P md ops Q S ds fuel listed a w (i :: rs) := fun j hj => by
  rcases List.mem_cons.1 hj with rfl | hj
  · exact wpOp_step ho (fun K' hK => h K' (fun a w hS hW => hK a w ⟨fun _ _ => hS, hW hS⟩))
  · exact hs j hj
end
end Go.Proofs.YtdfgdpjlbcnkfaaDoorW.PrintLast
