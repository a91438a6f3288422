/- What the law WriteHeads needs, part 5: the runner over a plain memory, words, the functions that it reaches, each by its own contract; for the inputs that each theorem names. -/
import Derived.Test.YtdmbgbennlnpcaaDoorWriteHeadsP4
import Derived.Test.YtdmbgbennlnpcaaDoorWriteHeadsQ0
import Derived.Lib.LaidU8
import Derived.MakeChecks
import Derived.LaidHandle
namespace Go.Proofs.YtdmbgbennlnpcaaDoor.Q
open Go Go.Proofs.YtdmbgbennlnpcaaDoorAbs Go.Proofs Go.RowKit Go.Proofs.YtdmbgbennlnpcaaDoorW.PrintWords
set_option linter.unusedVariables false
set_option linter.unusedSimpArgs false
abbrev PowIs (w : World) : Prop := Lib.TabIs Tryd.prog w "internal/strconv.uint64pow10" .u64 Lib.pow10Tab
theorem startP {w : World} (hT : PowIs w) (hG : 6 < w.heap.size) : Go.Proofs.YtdmbgbennlnpcaaDoorAbs.Start Tryd.prog (Ren.start 6) (St.start 6 glP whP) w := by
  have hg : Tryd.prog.globalNamed "internal/strconv.uint64pow10" = some 1 := by kernel_rfl
  have hb : ∃ ty fr, w.heap[1]? = some (.cells (Lib.pow10Tab.map (Value.int .u64)).toArray ty fr) := by
    unfold PowIs Lib.TabIs World.var? at hT
    rw [hg, Option.bind_some] at hT
    split at hT
    · rename_i cs a b e
      cases hT
      exact ⟨a, b, e⟩
    · cases hT
  have st0 : Go.Proofs.YtdmbgbennlnpcaaDoorAbs.Start Tryd.prog (Ren.start Tryd.prog.globals.size) (St.start Tryd.prog.globals.size glP whP) w := by
    refine start0w glP whP (by rw [nglob]; exact hG) (fun g cs hg hgl j v hj => ?_) (fun g cs hg hgl hw => ?_)
    · unfold glP at hgl
      split at hgl
      · cases hgl
        obtain ⟨ty, fr, e⟩ := hb
        refine ⟨v, ?_, .leaf _ ?_⟩
        · simp only [World.cell?, e]
          rw [List.getElem?_toArray]
          exact hj
        · have : (Lib.pow10Tab.map (Value.int .u64)).all leaf = true := by decide
          rw [List.all_eq_true] at this
          exact this v (List.mem_of_getElem? hj)
      · cases hgl
    · unfold glP at hgl
      split at hgl
      · cases hgl; exact hb
      · cases hgl
  rwa [nglob] at st0
def toF (l : List S50) : List Fld := l.map fun x => (x.f0, x.f1)
theorem toF_len (l : List S50) : (toF l).length = l.length := by simp [toF]
theorem fldv_in : ∀ (l : List S50) (j : Nat) (v : Value), (fldv (toF l))[j]? = some v → ∃ p, l[j / 2]? = some p ∧ [Value.string p.f0, Value.string p.f1][j % 2]? = some v
  | [], j, v, h => by simp [fldv, toF] at h
  | x :: l, 0, v, h => ⟨x, rfl, h⟩
  | x :: l, 1, v, h => ⟨x, rfl, h⟩
  | x :: l, j + 2, v, h => by
    have h' : (fldv (toF l))[j]? = some v := h
    obtain ⟨p, h1, h2⟩ := fldv_in l j v h'
    refine ⟨p, ?_, by rw [Nat.add_mod_right]; exact h2⟩
    rw [show (j + 2) / 2 = j / 2 + 1 by omega]
    simpa using h1
theorem row_fld {w : World} {ρ : Ren} {A : Option Addr} {l : List S50} (h : Kd.C k50 w A l.length l) (hp : 0 < l.length) : ∃ ad, A = some ad ∧ ∀ (j : Nat) (v : Value), (fldv (toF l))[j]? = some v → ∃ v', w.cell? (ad.add j) = some v' ∧ VR ρ v v' := by
  obtain ⟨ad, e, hcell⟩ := h.2.2 hp
  refine ⟨ad, e, fun j v hj => ?_⟩
  obtain ⟨p, h1, h2⟩ := fldv_in l j v hj
  obtain ⟨c, _, hK, hc⟩ := hcell (j / 2) p h1
  have ec := k50_open hK
  subst ec
  refine ⟨v, ?_, .leaf _ ?_⟩
  · have := hc (j % 2) v h2
    rwa [show j / 2 * k50.sz + j % 2 = j from Nat.div_add_mod' j 2] at this
  · rcases Nat.mod_two_eq_zero_or_one j with q | q <;> (rw [q] at h2; cases h2; rfl)
theorem fldv_nil (l : List S50) : l.length = 0 ↔ fldv (toF l) = [] := by
  cases l with
  | nil => simp [fldv, toF]
  | cons x l => simp [fldv, toF]
def FOk (l : List S50) : Prop := l.length ≤ 1048576 ∧ ∀ f ∈ toF l, f.1.size ≤ 1048576 ∧ f.2.size ≤ 1048576
theorem their_sf {S : St} {l : List S50} {n : Nat} (hn : n = S.next) : SF (S.theirs (fldv (toF l))) (.slice (some ⟨n, 0, some 0⟩) l.length (UNK + 2)) (toF l) :=
  .inl ⟨n, by rw [toF_len], by subst hn; simp [St.theirs], by subst hn; exact Nat.lt_succ_self _⟩
theorem their_kept (S : St) (cs : List Value) : Kept S (S.theirs cs) none := ⟨Nat.le_succ _, fun i hi _ => by simp only [St.theirs]; rw [if_neg (by omega)]⟩
theorem start_pg : PG (St.start 6 glP whP) := ⟨by decide, rfl⟩
theorem turnstilelaw10_WriteApart.calls (m t : ByteArray) (n : Int) (A0 : Option Addr) (c0 : Nat) (l0 : List S50) (m' t' : ByteArray) (n' : Int) (A1 : Option Addr) (c1 : Nat) (l1 : List S50) (w : World) (hr0 : Kd.C k50 w A0 l0.length l0) (hc0 : l0.length ≤ c0) (hr1 : Kd.C k50 w A1 l1.length l1) (hc1 : l1.length ≤ c1)
    (hT : PowIs w) (hG : 6 < w.heap.size) (hp : (m.size ≤ 1048576 ∧ t.size ≤ 1048576 ∧ FOk l0) ∧ (m'.size ≤ 1048576 ∧ t'.size ≤ 1048576 ∧ FOk l1)) :
    Calls Tryd.prog 4 #[.agg #[.string m, .string t, .int .i64 n, .slice A0 l0.length c0], .agg #[.string m', .string t', .int .i64 n', .slice A1 l1.length c1]] w fun e w' => e = .returned (.bool true) ∧ Below w.heap.size w w' := by
  have st0 := startP hT hG
  obtain ⟨ρ1, hle1, st1, hv1⟩ := st0.row 2 (fldv (toF l0)) A0 l0.length c0 hc0 (fldv_nil l0) (row_fld hr0)
  obtain ⟨ρ2, hle2, st2, hv2⟩ := st1.row 2 (fldv (toF l1)) A1 l1.length c1 hc1 (fldv_nil l1) (row_fld hr1)
  obtain ⟨⟨p1, p2, p3, p4⟩, p5, p6, p7, p8⟩ := hp
  have k1 := their_kept (St.start 6 glP whP) (fldv (toF l0))
  have k2 := their_kept ((St.start 6 glP whP).theirs (fldv (toF l0))) (fldv (toF l1))
  refine st2.law prims1_sim mixed rfl (xs := #[.agg #[.string m, .string t, .int .i64 n, .slice (some ⟨7, 0, some 0⟩) l0.length (UNK + 2)], .agg #[.string m', .string t', .int .i64 n', .slice (some ⟨8, 0, some 0⟩) l1.length (UNK + 2)]])
    (VRL.cons (VR.agg' (VRL.cons (VR.scalar rfl) (VRL.cons (VR.scalar rfl) (VRL.cons (VR.scalar rfl) (VRL.cons (hv1.mono hle2) (VRL.nil _)))))) (VRL.cons (VR.agg' (VRL.cons (VR.scalar rfl) (VRL.cons (VR.scalar rfl) (VRL.cons (VR.scalar rfl) (VRL.cons hv2 (VRL.nil _)))))) (VRL.nil _))) ?_
  refine apart_walk prims1_ok ((start_pg.kept k1).kept k2) (l := toF l0) (l' := toF l1) ((their_sf rfl).kept k2) p1 p2 (by rw [toF_len]; exact p3) p4 (their_sf rfl) p5 p6 (by rw [toF_len]; exact p7) p8 ?_
  intro S'; rfl
end Go.Proofs.YtdmbgbennlnpcaaDoor.Q
namespace Go.Proofs.YtdmbgbennlnpcaaDoor.Q
open Go Go.Proofs.YtdmbgbennlnpcaaDoorAbs Go.Proofs
set_option linter.unusedVariables false
set_option linter.unusedSimpArgs false
set_option maxRecDepth 100000
set_option maxHeartbeats 4000000
attribute [local irreducible] Go.Proofs.YtdmbgbennlnpcaaDoorAbs.O Go.Proofs.YtdmbgbennlnpcaaDoorAbs.W Go.Proofs.YtdmbgbennlnpcaaDoorAbs.C Go.Proofs.YtdmbgbennlnpcaaDoorAbs.OK Go.Proofs.YtdmbgbennlnpcaaDoorAbs.OKF Go.Proofs.YtdmbgbennlnpcaaDoorAbs.OKT Go.Proofs.YtdmbgbennlnpcaaDoorAbs.then_ Go.Proofs.YtdmbgbennlnpcaaDoorAbs.inBlock_ Go.Proofs.YtdmbgbennlnpcaaDoorAbs.bodyQ Go.Proofs.YtdmbgbennlnpcaaDoorAbs.Cont
section
variable {I : Prims} {S S0 : St} {Q : Value → St → Prop} {e : Env}
theorem RRequest_C (h : HP I) {m t : ByteArray} {n : Int} {vl : Value} {l : List Fld} (hF : RF S vl l) (hm : m.size ≤ 1048576) (ht : t.size ≤ 1048576) (hn : l.length ≤ 1048576) (hsz : ∀ f ∈ l, f.1.size ≤ 1048576 ∧ f.2.size ≤ 1048576)
    (hQ : ∀ v S', (reqE m t n l = none → Acc S S' v (headB (firstQ m t (dig01 n)) l)) → (reqE m t n l ≠ none → v = .slice none 0 0) → Kept S S' none → Q (.tuple #[v, .int .i64 (numF (reqE m t n l))]) S') : C Tryd.prog I 18 #[.agg #[.string m, .string t, .int .i64 n, vl]] S Q := by
  refine C_body (rs := [.tmp 2, .tmp 3]) (h.no 18 (by decide)) Tryd.func18 rfl rfl ok18 ?_
  obtain ⟨sz24, u9, sz3, u3, sz9, sz22, u22, u25, sz5, u5, sz38, u4, sz49, sz50, u58, u70, sz85, sz98, u103, sz25, u114, sz113, u88, sz27, sz108, u108, sz4, sz96, u96, u2, sz123, u123, sz130, u130, u139, sz103, u140, sz141, u142, u141, u21⟩ := UF
  have hb : (S.push ⟨[.string m, .string t, .int .i64 n, vl], 38, true, 0⟩).get S.next = some ⟨[.string m, .string t, .int .i64 n, vl], 38, true, 0⟩ := St.get_push_self _ _
  have kb : Kept S (S.push ⟨[.string m, .string t, .int .i64 n, vl], 38, true, 0⟩) none := Kept.push _ none
  have nb : S.next < (S.push ⟨[.string m, .string t, .int .i64 n, vl], 38, true, 0⟩).next := Nat.lt_succ_self _
  generalize hS0 : S.push ⟨[.string m, .string t, .int .i64 n, vl], 38, true, 0⟩ = S1 at *
  by_cases hL : LineQ m t n
  · have t0 := str_ne hL.neT
    have tM := hL.tokM
    have vT := hL.visT
    have hn0 : decide (n < 0) = false := decide_eq_false (by rcases hL.minN with q | q <;> omega)
    have hn1 : decide ((1 : Int) < n) = false := decide_eq_false (by rcases hL.minN with q | q <;> omega)
    have sd : ssX Tryd.prog 9 (.string ⟨#[48, 49]⟩) (some (.int .i64 n)) (some (.int .i64 (IntKind.i64.wrap (n + 1)))) none = some (.string ⟨[dig01 n].toArray⟩) := by
      rcases hL.minN with q | q
      · subst q; rw [ssX_lh _ _ _ _ _ _ u9 (by decide) (by decide) (by decide)]; rfl
      · subst q; rw [ssX_lh _ _ _ _ _ _ u9 (by decide) (by decide) (by decide)]; rfl
    obtain ⟨p1, ep1, sp1, a1⟩ := sadd_ex m ⟨#[32]⟩ (m.size + 1) rfl (by omega)
    obtain ⟨p2, ep2, sp2, a2⟩ := sadd_ex p1 t (m.size + 1 + t.size) (by rw [sp1]) (by omega)
    obtain ⟨p3, ep3, sp3, a3⟩ := sadd_ex p2 ⟨#[32, 72, 84, 84, 80, 47, 49, 46]⟩ (m.size + 1 + t.size + 8) (by rw [sp2]; rfl) (by omega)
    obtain ⟨p4, ep4, sp4, a4⟩ := sadd_ex p3 ⟨[dig01 n].toArray⟩ (m.size + 1 + t.size + 9) (by rw [sp3]; rfl) (by omega)
    have ef : p4 = ⟨(firstQ m t (dig01 n)).toArray⟩ := by
      rw [ep4, ep3, ep2, ep1]
      refine ByteArray.ext ?_
      simp [firstQ, httpL]
    rw [ef] at a4
    have hfl : (firstQ m t (dig01 n)).length = m.size + t.size + 10 := by
      have e1 : m.data.toList.length = m.size := Array.length_toList
      have e2 : t.data.toList.length = t.size := Array.length_toList
      simp only [firstQ, httpL, List.length_append, List.length_cons, List.length_nil]; omega
    generalize hwn : IntKind.i64.wrap (n + 1) = wn at sd
    generalize hdg : (⟨[dig01 n].toArray⟩ : ByteArray) = dg at sd a4
    by_cases hf : fineB l
    · have hE : reqE m t n l = if (headB (firstQ m t (dig01 n)) l).length ≤ 65536 then none else some 22 := by rw [reqE, if_pos hL, if_pos hf]
      repeat' (first
    | (with_reducible first | refine W_pushC fun K hK => ?_ | refine W_blockI ?_ | refine W_scopeI ?_ | refine W_labelI ?_ | refine W_skipI ?_ | refine W_retI ?_ | refine W_exitI ?_ | refine then_normalI ?_ | refine then_retI ?_ | refine then_exitI ?_ | refine inBlock_normalI ?_ | refine inBlock_retI ?_ | refine inBlock_exitI ?_ | refine inBlock_exitN (by decide) ?_)
    | ((with_reducible first | refine bodyQ_normal0 ?_ | refine bodyQ_normal1 ?_ | refine bodyQ_normal2 ?_ | refine bodyQ_normal3 ?_ | refine bodyQ_normal4 ?_ | refine bodyQ_ret0 ?_ | refine bodyQ_ret1 ?_ | refine bodyQ_ret2 ?_ | refine bodyQ_ret3 ?_ | refine bodyQ_ret4 ?_); (try simp only [EVB, Nat.reduceEqDiff, reduceIte]))
    | ((with_reducible show C _ _ _ _ _ _); first | (refine RIsTok_C h (by omega) ?_) | (refine visible_C h (by omega) ?_) | (refine RFields_C h (hF.kept kb) hn hsz (fun _ => ?_) (fun q => absurd hf q)) | ((refine whole_C h (hF.kept kb) (by omega) hsz hf.1 (fun hlen v' S3 hA => ?_) (fun hlen S3 k3 => ?_))))
    | (with_reducible refine Cont.use (by assumption) ?_)
    | (with_reducible first | refine hcA ?_ | refine hcB ?_)
    | ((with_reducible show W _ _ (.region _ _ true) _ _ _); first | (refine W_drawn (fl := [true, true, true, true, true, true, true, true, true, true, true, true, true, true, true, true, false, true, true, true, true]) (by decide +kernel) ?_) | (refine W_drawn (fl := [true]) (by decide +kernel) ?_))
    | ((with_reducible first | refine W_condG fun cA cB hcA hcB => ?_ | refine W_regionI ?_ | show O _ _ _ _ _ _ _ _ | show OK _ _ _ _ _ _ _ _ _ | show OKF _ _ _ _ _ _ _ _ _ _ | show OKT _ _ _ _ _ _ _ _ _ _ _ _ | show _ ∧ _ | show CG _ _ _ | show CB _ _ _); simp (disch := first | ((with_reducible show isStop _ = false); rfl) | ((with_reducible show isP _ = true); rfl) | ((with_reducible show (isStop _ || isP _) = false); rfl) | assumption | (simp only [GSB, Nat.reduceEqDiff, reduceIte]; done) | omega | (with_reducible decide) | (simp only [DSB, Go.Proofs.YtdmbgbennlnpcaaDoorAbs.oneC, Go.Proofs.YtdmbgbennlnpcaaDoorAbs.St.next_withLow, Nat.reduceAdd, Nat.reduceLeDiff] <;> omega) | fail) only [↓DN, ↓reduceIte, UP, CGB, Int.reduceEq, Int.reduceLT, Int.reduceLE, Nat.reduceEqDiff, Nat.reduceAdd, Nat.reduceMul, Nat.reduceSub, Int.reduceToNat, Nat.reduceLeDiff, PF, isStop, isP, goInt, beq_self_eq_true, decide_true, decide_false, Int.toNat_natCast, Int.natCast_zero, hS0, hb, tM, vT, t0, hn0, hn1, sd, hwn, a1, a2, a3, a4])
    | ((with_reducible refine CB_intro (fun ht => hcA ?_) (fun ht => hcB ?_)) <;> (first | (simp only [Bool.true_eq_false, Bool.false_eq_true] at ht; done) | ((try simp only [Bool.not_eq_true', Bool.not_eq_false'] at ht); (try simp only [ht]); (try simp only [HTN] at ht); (try (exfalso; omega)))))
    | ((with_reducible refine W_regionI ?_); simp only [List.append_eq, List.cons_append, List.nil_append])
    | (with_reducible refine O_splitG fun cA cB hcA hcB => ?_))
      · rw [if_pos hlen] at hE
        have hq := hQ v' S3 (fun _ => ⟨kb.trans hA.kept, hA.own, fun i q => Nat.le_trans kb.1 (hA.new i q)⟩) (fun q => absurd hE q) (kb.trans hA.kept)
        rw [hE] at hq
        exact hq
      · rw [if_neg (by omega)] at hE
        have hq := hQ (.slice none 0 0) S3 (fun q => by rw [hE] at q; cases q) (fun _ => rfl) (kb.trans k3)
        rw [hE] at hq
        exact hq
    · have hE : reqE m t n l = some 21 := by rw [reqE, if_pos hL, if_neg hf]
      have hq := hQ (.slice none 0 0) S1 (fun q => by rw [hE] at q; cases q) (fun _ => rfl) kb
      rw [hE] at hq
      repeat' (first
    | (with_reducible first | refine W_pushC fun K hK => ?_ | refine W_blockI ?_ | refine W_scopeI ?_ | refine W_labelI ?_ | refine W_skipI ?_ | refine W_retI ?_ | refine W_exitI ?_ | refine then_normalI ?_ | refine then_retI ?_ | refine then_exitI ?_ | refine inBlock_normalI ?_ | refine inBlock_retI ?_ | refine inBlock_exitI ?_ | refine inBlock_exitN (by decide) ?_)
    | ((with_reducible first | refine bodyQ_normal0 ?_ | refine bodyQ_normal1 ?_ | refine bodyQ_normal2 ?_ | refine bodyQ_normal3 ?_ | refine bodyQ_normal4 ?_ | refine bodyQ_ret0 ?_ | refine bodyQ_ret1 ?_ | refine bodyQ_ret2 ?_ | refine bodyQ_ret3 ?_ | refine bodyQ_ret4 ?_); (try simp only [EVB, Nat.reduceEqDiff, reduceIte]))
    | ((with_reducible show C _ _ _ _ _ _); first | (refine RIsTok_C h (by omega) ?_) | (refine visible_C h (by omega) ?_) | (refine RFields_C h (hF.kept kb) hn hsz (fun q => absurd q hf) (fun _ => ?_)))
    | (with_reducible refine Cont.use (by assumption) ?_)
    | (with_reducible first | refine hcA ?_ | refine hcB ?_)
    | ((with_reducible show W _ _ (.region _ _ true) _ _ _); first | (refine W_drawn (fl := [true, true, true, true, true, true, true, true, true, true, true, true, true, true, true, true, false, true, true, true, true]) (by decide +kernel) ?_) | (refine W_drawn (fl := [true]) (by decide +kernel) ?_))
    | ((with_reducible first | refine W_condG fun cA cB hcA hcB => ?_ | refine W_regionI ?_ | show O _ _ _ _ _ _ _ _ | show OK _ _ _ _ _ _ _ _ _ | show OKF _ _ _ _ _ _ _ _ _ _ | show OKT _ _ _ _ _ _ _ _ _ _ _ _ | show _ ∧ _ | show CG _ _ _ | show CB _ _ _); simp (disch := first | ((with_reducible show isStop _ = false); rfl) | ((with_reducible show isP _ = true); rfl) | ((with_reducible show (isStop _ || isP _) = false); rfl) | assumption | (simp only [GSB, Nat.reduceEqDiff, reduceIte]; done) | omega | (with_reducible decide) | (simp only [DSB, Go.Proofs.YtdmbgbennlnpcaaDoorAbs.oneC, Go.Proofs.YtdmbgbennlnpcaaDoorAbs.St.next_withLow, Nat.reduceAdd, Nat.reduceLeDiff] <;> omega) | fail) only [↓DN, ↓reduceIte, UP, CGB, Int.reduceEq, Int.reduceLT, Int.reduceLE, Nat.reduceEqDiff, Nat.reduceAdd, Nat.reduceMul, Nat.reduceSub, Int.reduceToNat, Nat.reduceLeDiff, PF, isStop, isP, goInt, beq_self_eq_true, decide_true, decide_false, Int.toNat_natCast, Int.natCast_zero, hS0, hb, tM, vT, t0, hn0, hn1])
    | ((with_reducible refine CB_intro (fun ht => hcA ?_) (fun ht => hcB ?_)) <;> (first | (simp only [Bool.true_eq_false, Bool.false_eq_true] at ht; done) | ((try simp only [Bool.not_eq_true', Bool.not_eq_false'] at ht); (try simp only [ht]); (try simp only [HTN] at ht); (try (exfalso; omega)))))
    | ((with_reducible refine W_regionI ?_); simp only [List.append_eq, List.cons_append, List.nil_append])
    | (with_reducible refine O_splitG fun cA cB hcA hcB => ?_)
    | (exact hq))
  · have hE : reqE m t n l = some 20 := by rw [reqE, if_neg hL]
    have hq := hQ (.slice none 0 0) S1 (fun q => by rw [hE] at q; cases q) (fun _ => rfl) kb
    rw [hE] at hq
    simp only [numF] at hq
    by_cases b1 : isTokB m = true
    · by_cases b2 : (!(t.toList == (⟨#[]⟩ : ByteArray).toList) && allB visB t) = true
      · have b4 : n < 0 ∨ 1 < n := by
          refine Decidable.byContradiction fun q => hL ?_
          simp only [Bool.and_eq_true, Bool.not_eq_true'] at b2
          refine ⟨b1, fun z => ?_, b2.2, by omega⟩
          rw [z] at b2
          exact absurd b2.1 (by simp)
        by_cases b5 : n < 0
        · have hn0 : decide (n < 0) = true := decide_eq_true b5
          repeat' (first
    | (with_reducible first | refine W_pushC fun K hK => ?_ | refine W_blockI ?_ | refine W_scopeI ?_ | refine W_labelI ?_ | refine W_skipI ?_ | refine W_retI ?_ | refine W_exitI ?_ | refine then_normalI ?_ | refine then_retI ?_ | refine then_exitI ?_ | refine inBlock_normalI ?_ | refine inBlock_retI ?_ | refine inBlock_exitI ?_ | refine inBlock_exitN (by decide) ?_)
    | ((with_reducible first | refine bodyQ_normal0 ?_ | refine bodyQ_normal1 ?_ | refine bodyQ_normal2 ?_ | refine bodyQ_normal3 ?_ | refine bodyQ_normal4 ?_ | refine bodyQ_ret0 ?_ | refine bodyQ_ret1 ?_ | refine bodyQ_ret2 ?_ | refine bodyQ_ret3 ?_ | refine bodyQ_ret4 ?_); (try simp only [EVB, Nat.reduceEqDiff, reduceIte]))
    | ((with_reducible show C _ _ _ _ _ _); first | (refine RIsTok_C h (by omega) ?_) | (refine visible_C h (by omega) ?_))
    | (with_reducible refine Cont.use (by assumption) ?_)
    | (with_reducible first | refine hcA ?_ | refine hcB ?_)
    | ((with_reducible show W _ _ (.region _ _ true) _ _ _); first | (refine W_drawn (fl := [true, true, true, true, true, true, true, true, true, true, true, true, true, true, true, true, false, true, true, true, true]) (by decide +kernel) ?_) | (refine W_drawn (fl := [true]) (by decide +kernel) ?_))
    | ((with_reducible first | refine W_condG fun cA cB hcA hcB => ?_ | refine W_regionI ?_ | show O _ _ _ _ _ _ _ _ | show OK _ _ _ _ _ _ _ _ _ | show OKF _ _ _ _ _ _ _ _ _ _ | show OKT _ _ _ _ _ _ _ _ _ _ _ _ | show _ ∧ _ | show CG _ _ _ | show CB _ _ _); simp (disch := first | ((with_reducible show isStop _ = false); rfl) | ((with_reducible show isP _ = true); rfl) | ((with_reducible show (isStop _ || isP _) = false); rfl) | assumption | (simp only [GSB, Nat.reduceEqDiff, reduceIte]; done) | omega | (with_reducible decide) | (simp only [DSB, Go.Proofs.YtdmbgbennlnpcaaDoorAbs.oneC, Go.Proofs.YtdmbgbennlnpcaaDoorAbs.St.next_withLow, Nat.reduceAdd, Nat.reduceLeDiff] <;> omega) | fail) only [↓DN, ↓reduceIte, UP, CGB, Int.reduceEq, Int.reduceLT, Int.reduceLE, Nat.reduceEqDiff, Nat.reduceAdd, Nat.reduceMul, Nat.reduceSub, Int.reduceToNat, Nat.reduceLeDiff, PF, isStop, isP, goInt, beq_self_eq_true, decide_true, decide_false, Int.toNat_natCast, Int.natCast_zero, hS0, hb, b1, b2, hn0])
    | ((with_reducible refine CB_intro (fun ht => hcA ?_) (fun ht => hcB ?_)) <;> (first | (simp only [Bool.true_eq_false, Bool.false_eq_true] at ht; done) | ((try simp only [Bool.not_eq_true', Bool.not_eq_false'] at ht); (try simp only [ht]); (try simp only [HTN] at ht); (try (exfalso; omega)))))
    | ((with_reducible refine W_regionI ?_); simp only [List.append_eq, List.cons_append, List.nil_append])
    | (with_reducible refine O_splitG fun cA cB hcA hcB => ?_)
    | (exact hq))
        · have hn0 : decide (n < 0) = false := decide_eq_false b5
          have hn1 : decide ((1 : Int) < n) = true := decide_eq_true (by omega)
          repeat' (first
    | (with_reducible first | refine W_pushC fun K hK => ?_ | refine W_blockI ?_ | refine W_scopeI ?_ | refine W_labelI ?_ | refine W_skipI ?_ | refine W_retI ?_ | refine W_exitI ?_ | refine then_normalI ?_ | refine then_retI ?_ | refine then_exitI ?_ | refine inBlock_normalI ?_ | refine inBlock_retI ?_ | refine inBlock_exitI ?_ | refine inBlock_exitN (by decide) ?_)
    | ((with_reducible first | refine bodyQ_normal0 ?_ | refine bodyQ_normal1 ?_ | refine bodyQ_normal2 ?_ | refine bodyQ_normal3 ?_ | refine bodyQ_normal4 ?_ | refine bodyQ_ret0 ?_ | refine bodyQ_ret1 ?_ | refine bodyQ_ret2 ?_ | refine bodyQ_ret3 ?_ | refine bodyQ_ret4 ?_); (try simp only [EVB, Nat.reduceEqDiff, reduceIte]))
    | ((with_reducible show C _ _ _ _ _ _); first | (refine RIsTok_C h (by omega) ?_) | (refine visible_C h (by omega) ?_))
    | (with_reducible refine Cont.use (by assumption) ?_)
    | (with_reducible first | refine hcA ?_ | refine hcB ?_)
    | ((with_reducible show W _ _ (.region _ _ true) _ _ _); first | (refine W_drawn (fl := [true, true, true, true, true, true, true, true, true, true, true, true, true, true, true, true, false, true, true, true, true]) (by decide +kernel) ?_) | (refine W_drawn (fl := [true]) (by decide +kernel) ?_))
    | ((with_reducible first | refine W_condG fun cA cB hcA hcB => ?_ | refine W_regionI ?_ | show O _ _ _ _ _ _ _ _ | show OK _ _ _ _ _ _ _ _ _ | show OKF _ _ _ _ _ _ _ _ _ _ | show OKT _ _ _ _ _ _ _ _ _ _ _ _ | show _ ∧ _ | show CG _ _ _ | show CB _ _ _); simp (disch := first | ((with_reducible show isStop _ = false); rfl) | ((with_reducible show isP _ = true); rfl) | ((with_reducible show (isStop _ || isP _) = false); rfl) | assumption | (simp only [GSB, Nat.reduceEqDiff, reduceIte]; done) | omega | (with_reducible decide) | (simp only [DSB, Go.Proofs.YtdmbgbennlnpcaaDoorAbs.oneC, Go.Proofs.YtdmbgbennlnpcaaDoorAbs.St.next_withLow, Nat.reduceAdd, Nat.reduceLeDiff] <;> omega) | fail) only [↓DN, ↓reduceIte, UP, CGB, Int.reduceEq, Int.reduceLT, Int.reduceLE, Nat.reduceEqDiff, Nat.reduceAdd, Nat.reduceMul, Nat.reduceSub, Int.reduceToNat, Nat.reduceLeDiff, PF, isStop, isP, goInt, beq_self_eq_true, decide_true, decide_false, Int.toNat_natCast, Int.natCast_zero, hS0, hb, b1, b2, hn0, hn1])
    | ((with_reducible refine CB_intro (fun ht => hcA ?_) (fun ht => hcB ?_)) <;> (first | (simp only [Bool.true_eq_false, Bool.false_eq_true] at ht; done) | ((try simp only [Bool.not_eq_true', Bool.not_eq_false'] at ht); (try simp only [ht]); (try simp only [HTN] at ht); (try (exfalso; omega)))))
    | ((with_reducible refine W_regionI ?_); simp only [List.append_eq, List.cons_append, List.nil_append])
    | (with_reducible refine O_splitG fun cA cB hcA hcB => ?_)
    | (exact hq))
      · have b2 : (!(t.toList == (⟨#[]⟩ : ByteArray).toList) && allB visB t) = false := by simpa using b2
        repeat' (first
    | (with_reducible first | refine W_pushC fun K hK => ?_ | refine W_blockI ?_ | refine W_scopeI ?_ | refine W_labelI ?_ | refine W_skipI ?_ | refine W_retI ?_ | refine W_exitI ?_ | refine then_normalI ?_ | refine then_retI ?_ | refine then_exitI ?_ | refine inBlock_normalI ?_ | refine inBlock_retI ?_ | refine inBlock_exitI ?_ | refine inBlock_exitN (by decide) ?_)
    | ((with_reducible first | refine bodyQ_normal0 ?_ | refine bodyQ_normal1 ?_ | refine bodyQ_normal2 ?_ | refine bodyQ_normal3 ?_ | refine bodyQ_normal4 ?_ | refine bodyQ_ret0 ?_ | refine bodyQ_ret1 ?_ | refine bodyQ_ret2 ?_ | refine bodyQ_ret3 ?_ | refine bodyQ_ret4 ?_); (try simp only [EVB, Nat.reduceEqDiff, reduceIte]))
    | ((with_reducible show C _ _ _ _ _ _); first | (refine RIsTok_C h (by omega) ?_) | (refine visible_C h (by omega) ?_))
    | (with_reducible refine Cont.use (by assumption) ?_)
    | (with_reducible first | refine hcA ?_ | refine hcB ?_)
    | ((with_reducible show W _ _ (.region _ _ true) _ _ _); first | (refine W_drawn (fl := [true, true, true, true, true, true, true, true, true, true, true, true, true, true, true, true, false, true, true, true, true]) (by decide +kernel) ?_) | (refine W_drawn (fl := [true]) (by decide +kernel) ?_))
    | ((with_reducible first | refine W_condG fun cA cB hcA hcB => ?_ | refine W_regionI ?_ | show O _ _ _ _ _ _ _ _ | show OK _ _ _ _ _ _ _ _ _ | show OKF _ _ _ _ _ _ _ _ _ _ | show OKT _ _ _ _ _ _ _ _ _ _ _ _ | show _ ∧ _ | show CG _ _ _ | show CB _ _ _); simp (disch := first | ((with_reducible show isStop _ = false); rfl) | ((with_reducible show isP _ = true); rfl) | ((with_reducible show (isStop _ || isP _) = false); rfl) | assumption | (simp only [GSB, Nat.reduceEqDiff, reduceIte]; done) | omega | (with_reducible decide) | (simp only [DSB, Go.Proofs.YtdmbgbennlnpcaaDoorAbs.oneC, Go.Proofs.YtdmbgbennlnpcaaDoorAbs.St.next_withLow, Nat.reduceAdd, Nat.reduceLeDiff] <;> omega) | fail) only [↓DN, ↓reduceIte, UP, CGB, Int.reduceEq, Int.reduceLT, Int.reduceLE, Nat.reduceEqDiff, Nat.reduceAdd, Nat.reduceMul, Nat.reduceSub, Int.reduceToNat, Nat.reduceLeDiff, PF, isStop, isP, goInt, beq_self_eq_true, decide_true, decide_false, Int.toNat_natCast, Int.natCast_zero, hS0, hb, b1, b2])
    | ((with_reducible refine CB_intro (fun ht => hcA ?_) (fun ht => hcB ?_)) <;> (first | (simp only [Bool.true_eq_false, Bool.false_eq_true] at ht; done) | ((try simp only [Bool.not_eq_true', Bool.not_eq_false'] at ht); (try simp only [ht]); (try simp only [HTN] at ht); (try (exfalso; omega)))))
    | ((with_reducible refine W_regionI ?_); simp only [List.append_eq, List.cons_append, List.nil_append])
    | (with_reducible refine O_splitG fun cA cB hcA hcB => ?_)
    | (exact hq))
    · have b1 : isTokB m = false := by simpa using b1
      repeat' (first
    | (with_reducible first | refine W_pushC fun K hK => ?_ | refine W_blockI ?_ | refine W_scopeI ?_ | refine W_labelI ?_ | refine W_skipI ?_ | refine W_retI ?_ | refine W_exitI ?_ | refine then_normalI ?_ | refine then_retI ?_ | refine then_exitI ?_ | refine inBlock_normalI ?_ | refine inBlock_retI ?_ | refine inBlock_exitI ?_ | refine inBlock_exitN (by decide) ?_)
    | ((with_reducible first | refine bodyQ_normal0 ?_ | refine bodyQ_normal1 ?_ | refine bodyQ_normal2 ?_ | refine bodyQ_normal3 ?_ | refine bodyQ_normal4 ?_ | refine bodyQ_ret0 ?_ | refine bodyQ_ret1 ?_ | refine bodyQ_ret2 ?_ | refine bodyQ_ret3 ?_ | refine bodyQ_ret4 ?_); (try simp only [EVB, Nat.reduceEqDiff, reduceIte]))
    | ((with_reducible show C _ _ _ _ _ _); first | (refine RIsTok_C h (by omega) ?_) | (refine visible_C h (by omega) ?_))
    | (with_reducible refine Cont.use (by assumption) ?_)
    | (with_reducible first | refine hcA ?_ | refine hcB ?_)
    | ((with_reducible show W _ _ (.region _ _ true) _ _ _); first | (refine W_drawn (fl := [true, true, true, true, true, true, true, true, true, true, true, true, true, true, true, true, false, true, true, true, true]) (by decide +kernel) ?_) | (refine W_drawn (fl := [true]) (by decide +kernel) ?_))
    | ((with_reducible first | refine W_condG fun cA cB hcA hcB => ?_ | refine W_regionI ?_ | show O _ _ _ _ _ _ _ _ | show OK _ _ _ _ _ _ _ _ _ | show OKF _ _ _ _ _ _ _ _ _ _ | show OKT _ _ _ _ _ _ _ _ _ _ _ _ | show _ ∧ _ | show CG _ _ _ | show CB _ _ _); simp (disch := first | ((with_reducible show isStop _ = false); rfl) | ((with_reducible show isP _ = true); rfl) | ((with_reducible show (isStop _ || isP _) = false); rfl) | assumption | (simp only [GSB, Nat.reduceEqDiff, reduceIte]; done) | omega | (with_reducible decide) | (simp only [DSB, Go.Proofs.YtdmbgbennlnpcaaDoorAbs.oneC, Go.Proofs.YtdmbgbennlnpcaaDoorAbs.St.next_withLow, Nat.reduceAdd, Nat.reduceLeDiff] <;> omega) | fail) only [↓DN, ↓reduceIte, UP, CGB, Int.reduceEq, Int.reduceLT, Int.reduceLE, Nat.reduceEqDiff, Nat.reduceAdd, Nat.reduceMul, Nat.reduceSub, Int.reduceToNat, Nat.reduceLeDiff, PF, isStop, isP, goInt, beq_self_eq_true, decide_true, decide_false, Int.toNat_natCast, Int.natCast_zero, hS0, hb, b1])
    | ((with_reducible refine CB_intro (fun ht => hcA ?_) (fun ht => hcB ?_)) <;> (first | (simp only [Bool.true_eq_false, Bool.false_eq_true] at ht; done) | ((try simp only [Bool.not_eq_true', Bool.not_eq_false'] at ht); (try simp only [ht]); (try simp only [HTN] at ht); (try (exfalso; omega)))))
    | ((with_reducible refine W_regionI ?_); simp only [List.append_eq, List.cons_append, List.nil_append])
    | (with_reducible refine O_splitG fun cA cB hcA hcB => ?_)
    | (exact hq))
theorem RResponse_C (h : HP I) {r : ByteArray} {n st : Int} {vl : Value} {l : List Fld} (hF : RF S vl l) (hr : r.size ≤ 1048576) (hn : l.length ≤ 1048576) (hsz : ∀ f ∈ l, f.1.size ≤ 1048576 ∧ f.2.size ≤ 1048576)
    (hQ : ∀ v S', (resE r n st l = none → Acc S S' v (headB (firstP r (dig01 n) st) l)) → (resE r n st l ≠ none → v = .slice none 0 0) → Kept S S' none → Q (.tuple #[v, .int .i64 (numF (resE r n st l))]) S') : C Tryd.prog I 20 #[.agg #[.int .i64 st, .string r, .int .i64 n, vl]] S Q := by
  refine C_body (rs := [.tmp 2, .tmp 3]) (h.no 20 (by decide)) Tryd.func20 rfl rfl ok20 ?_
  obtain ⟨sz24, u9, sz3, u3, sz9, sz22, u22, u25, sz5, u5, sz38, u4, sz49, sz50, u58, u70, sz85, sz98, u103, sz25, u114, sz113, u88, sz27, sz108, u108, sz4, sz96, u96, u2, sz123, u123, sz130, u130, u139, sz103, u140, sz141, u142, u141, u21⟩ := UF
  have hb : (S.push ⟨[.int .i64 st, .string r, .int .i64 n, vl], 24, true, 0⟩).get S.next = some ⟨[.int .i64 st, .string r, .int .i64 n, vl], 24, true, 0⟩ := St.get_push_self _ _
  have kb : Kept S (S.push ⟨[.int .i64 st, .string r, .int .i64 n, vl], 24, true, 0⟩) none := Kept.push _ none
  have nb : S.next < (S.push ⟨[.int .i64 st, .string r, .int .i64 n, vl], 24, true, 0⟩).next := Nat.lt_succ_self _
  generalize hS0 : S.push ⟨[.int .i64 st, .string r, .int .i64 n, vl], 24, true, 0⟩ = S1 at *
  by_cases hL : LineP n r st
  · have vT := hL.visR
    have d1 : decide (st < 100) = false := decide_eq_false (by have := hL.ge; omega)
    have d2 : decide ((999 : Int) < st) = false := decide_eq_false (by have := hL.le; omega)
    have hn0 : decide (n < 0) = false := decide_eq_false (by rcases hL.minN with q | q <;> omega)
    have hn1 : decide ((1 : Int) < n) = false := decide_eq_false (by rcases hL.minN with q | q <;> omega)
    have sd : ssX Tryd.prog 9 (.string ⟨#[48, 49]⟩) (some (.int .i64 n)) (some (.int .i64 (IntKind.i64.wrap (n + 1)))) none = some (.string ⟨[dig01 n].toArray⟩) := by
      rcases hL.minN with q | q
      · subst q; rw [ssX_lh _ _ _ _ _ _ u9 (by decide) (by decide) (by decide)]; rfl
      · subst q; rw [ssX_lh _ _ _ _ _ _ u9 (by decide) (by decide) (by decide)]; rfl
    obtain ⟨t, rfl⟩ : ∃ t : Nat, st = (t : Int) := ⟨st.toNat, by have := hL.ge; omega⟩
    have ht1 : 100 ≤ t := by have := hL.ge; omega
    have ht2 : t < 1000 := by have := hL.le; omega
    have g3 : (dg3 (t : Int)).length = 3 := rfl
    have e1 : r.data.toList.length = r.size := Array.length_toList
    obtain ⟨p1, ep1, sp1, a1⟩ := sadd_ex ⟨#[72, 84, 84, 80, 47, 49, 46]⟩ ⟨[dig01 n].toArray⟩ 8 rfl (by omega)
    obtain ⟨p2, ep2, sp2, a2⟩ := sadd_ex p1 ⟨#[32]⟩ 9 (by rw [sp1]; rfl) (by omega)
    obtain ⟨p3, ep3, sp3, a3⟩ := sadd_ex p2 ⟨(dg3 (t : Int)).toArray⟩ 12 (by rw [sp2]; rfl) (by omega)
    obtain ⟨p4, ep4, sp4, a4⟩ := sadd_ex p3 ⟨#[32]⟩ 13 (by rw [sp3]; rfl) (by omega)
    obtain ⟨p5, ep5, sp5, a5⟩ := sadd_ex p4 r (13 + r.size) (by rw [sp4]) (by omega)
    have ef : p5 = ⟨(firstP r (dig01 n) (t : Int)).toArray⟩ := by
      rw [ep5, ep4, ep3, ep2, ep1]
      refine ByteArray.ext ?_
      simp [firstP]
    rw [ef] at a5
    have hfl : (firstP r (dig01 n) (t : Int)).length = r.size + 13 := by
      simp only [firstP, List.length_append, List.length_cons, List.length_nil, g3]; omega
    generalize hwn : IntKind.i64.wrap (n + 1) = wn at sd
    generalize hdg : (⟨[dig01 n].toArray⟩ : ByteArray) = dg at sd a1
    have three := fun (S : St) (Q : Value → St → Prop) (hq : Q (.string ⟨(dg3 (t : Int)).toArray⟩) S) => three_C (I := I) h ht1 ht2 hq
    generalize hdt : (⟨(dg3 (t : Int)).toArray⟩ : ByteArray) = dt at three a3
    by_cases hf : fineB l
    · have hE : resE r n (t : Int) l = if (headB (firstP r (dig01 n) (t : Int)) l).length ≤ 65536 then none else some 22 := by rw [resE, if_pos hL, if_pos hf]
      repeat' (first
    | (with_reducible first | refine W_pushC fun K hK => ?_ | refine W_blockI ?_ | refine W_scopeI ?_ | refine W_labelI ?_ | refine W_skipI ?_ | refine W_retI ?_ | refine W_exitI ?_ | refine then_normalI ?_ | refine then_retI ?_ | refine then_exitI ?_ | refine inBlock_normalI ?_ | refine inBlock_retI ?_ | refine inBlock_exitI ?_ | refine inBlock_exitN (by decide) ?_)
    | ((with_reducible first | refine bodyQ_normal0 ?_ | refine bodyQ_normal1 ?_ | refine bodyQ_normal2 ?_ | refine bodyQ_normal3 ?_ | refine bodyQ_normal4 ?_ | refine bodyQ_ret0 ?_ | refine bodyQ_ret1 ?_ | refine bodyQ_ret2 ?_ | refine bodyQ_ret3 ?_ | refine bodyQ_ret4 ?_); (try simp only [EVB, Nat.reduceEqDiff, reduceIte]))
    | ((with_reducible show C _ _ _ _ _ _); first | (refine words_C h (by omega) ?_) | (refine three _ _ ?_) | (refine RFields_C h (hF.kept kb) hn hsz (fun _ => ?_) (fun q => absurd hf q)) | ((refine whole_C h (hF.kept kb) (by omega) hsz hf.1 (fun hlen v' S3 hA => ?_) (fun hlen S3 k3 => ?_))))
    | (with_reducible refine Cont.use (by assumption) ?_)
    | (with_reducible first | refine hcA ?_ | refine hcB ?_)
    | ((with_reducible show W _ _ (.region _ _ true) _ _ _); first | (refine W_drawn (fl := [true, true, true, true, true, true, true, true, true, true, true, true, true, true, true, true, true, true, false, true, true, true, true]) (by decide +kernel) ?_) | (refine W_drawn (fl := [true]) (by decide +kernel) ?_))
    | ((with_reducible first | refine W_condG fun cA cB hcA hcB => ?_ | refine W_regionI ?_ | show O _ _ _ _ _ _ _ _ | show OK _ _ _ _ _ _ _ _ _ | show OKF _ _ _ _ _ _ _ _ _ _ | show OKT _ _ _ _ _ _ _ _ _ _ _ _ | show _ ∧ _ | show CG _ _ _ | show CB _ _ _); simp (disch := first | ((with_reducible show isStop _ = false); rfl) | ((with_reducible show isP _ = true); rfl) | ((with_reducible show (isStop _ || isP _) = false); rfl) | assumption | (simp only [GSB, Nat.reduceEqDiff, reduceIte]; done) | omega | (with_reducible decide) | (simp only [DSB, Go.Proofs.YtdmbgbennlnpcaaDoorAbs.oneC, Go.Proofs.YtdmbgbennlnpcaaDoorAbs.St.next_withLow, Nat.reduceAdd, Nat.reduceLeDiff] <;> omega) | fail) only [↓DN, ↓reduceIte, UP, CGB, Int.reduceEq, Int.reduceLT, Int.reduceLE, Nat.reduceEqDiff, Nat.reduceAdd, Nat.reduceMul, Nat.reduceSub, Int.reduceToNat, Nat.reduceLeDiff, PF, isStop, isP, goInt, beq_self_eq_true, decide_true, decide_false, Int.toNat_natCast, Int.natCast_zero, hS0, hb, d1, d2, vT, hn0, hn1, sd, hwn, a1, a2, a3, a4, a5])
    | ((with_reducible refine CB_intro (fun ht => hcA ?_) (fun ht => hcB ?_)) <;> (first | (simp only [Bool.true_eq_false, Bool.false_eq_true] at ht; done) | ((try simp only [Bool.not_eq_true', Bool.not_eq_false'] at ht); (try simp only [ht]); (try simp only [HTN] at ht); (try (exfalso; omega)))))
    | ((with_reducible refine W_regionI ?_); simp only [List.append_eq, List.cons_append, List.nil_append])
    | (with_reducible refine O_splitG fun cA cB hcA hcB => ?_))
      · rw [if_pos hlen] at hE
        have hq := hQ v' S3 (fun _ => ⟨kb.trans hA.kept, hA.own, fun i q => Nat.le_trans kb.1 (hA.new i q)⟩) (fun q => absurd hE q) (kb.trans hA.kept)
        rw [hE] at hq
        exact hq
      · rw [if_neg (by omega)] at hE
        have hq := hQ (.slice none 0 0) S3 (fun q => by rw [hE] at q; cases q) (fun _ => rfl) (kb.trans k3)
        rw [hE] at hq
        exact hq
    · have hE : resE r n (t : Int) l = some 21 := by rw [resE, if_pos hL, if_neg hf]
      have hq := hQ (.slice none 0 0) S1 (fun q => by rw [hE] at q; cases q) (fun _ => rfl) kb
      rw [hE] at hq
      repeat' (first
    | (with_reducible first | refine W_pushC fun K hK => ?_ | refine W_blockI ?_ | refine W_scopeI ?_ | refine W_labelI ?_ | refine W_skipI ?_ | refine W_retI ?_ | refine W_exitI ?_ | refine then_normalI ?_ | refine then_retI ?_ | refine then_exitI ?_ | refine inBlock_normalI ?_ | refine inBlock_retI ?_ | refine inBlock_exitI ?_ | refine inBlock_exitN (by decide) ?_)
    | ((with_reducible first | refine bodyQ_normal0 ?_ | refine bodyQ_normal1 ?_ | refine bodyQ_normal2 ?_ | refine bodyQ_normal3 ?_ | refine bodyQ_normal4 ?_ | refine bodyQ_ret0 ?_ | refine bodyQ_ret1 ?_ | refine bodyQ_ret2 ?_ | refine bodyQ_ret3 ?_ | refine bodyQ_ret4 ?_); (try simp only [EVB, Nat.reduceEqDiff, reduceIte]))
    | ((with_reducible show C _ _ _ _ _ _); first | (refine words_C h (by omega) ?_) | (refine RFields_C h (hF.kept kb) hn hsz (fun q => absurd q hf) (fun _ => ?_)))
    | (with_reducible refine Cont.use (by assumption) ?_)
    | (with_reducible first | refine hcA ?_ | refine hcB ?_)
    | ((with_reducible show W _ _ (.region _ _ true) _ _ _); first | (refine W_drawn (fl := [true, true, true, true, true, true, true, true, true, true, true, true, true, true, true, true, true, true, false, true, true, true, true]) (by decide +kernel) ?_) | (refine W_drawn (fl := [true]) (by decide +kernel) ?_))
    | ((with_reducible first | refine W_condG fun cA cB hcA hcB => ?_ | refine W_regionI ?_ | show O _ _ _ _ _ _ _ _ | show OK _ _ _ _ _ _ _ _ _ | show OKF _ _ _ _ _ _ _ _ _ _ | show OKT _ _ _ _ _ _ _ _ _ _ _ _ | show _ ∧ _ | show CG _ _ _ | show CB _ _ _); simp (disch := first | ((with_reducible show isStop _ = false); rfl) | ((with_reducible show isP _ = true); rfl) | ((with_reducible show (isStop _ || isP _) = false); rfl) | assumption | (simp only [GSB, Nat.reduceEqDiff, reduceIte]; done) | omega | (with_reducible decide) | (simp only [DSB, Go.Proofs.YtdmbgbennlnpcaaDoorAbs.oneC, Go.Proofs.YtdmbgbennlnpcaaDoorAbs.St.next_withLow, Nat.reduceAdd, Nat.reduceLeDiff] <;> omega) | fail) only [↓DN, ↓reduceIte, UP, CGB, Int.reduceEq, Int.reduceLT, Int.reduceLE, Nat.reduceEqDiff, Nat.reduceAdd, Nat.reduceMul, Nat.reduceSub, Int.reduceToNat, Nat.reduceLeDiff, PF, isStop, isP, goInt, beq_self_eq_true, decide_true, decide_false, Int.toNat_natCast, Int.natCast_zero, hS0, hb, d1, d2, vT, hn0, hn1])
    | ((with_reducible refine CB_intro (fun ht => hcA ?_) (fun ht => hcB ?_)) <;> (first | (simp only [Bool.true_eq_false, Bool.false_eq_true] at ht; done) | ((try simp only [Bool.not_eq_true', Bool.not_eq_false'] at ht); (try simp only [ht]); (try simp only [HTN] at ht); (try (exfalso; omega)))))
    | ((with_reducible refine W_regionI ?_); simp only [List.append_eq, List.cons_append, List.nil_append])
    | (with_reducible refine O_splitG fun cA cB hcA hcB => ?_)
    | (exact hq))
  · have hE : resE r n st l = some 20 := by rw [resE, if_neg hL]
    have hq := hQ (.slice none 0 0) S1 (fun q => by rw [hE] at q; cases q) (fun _ => rfl) kb
    rw [hE] at hq
    simp only [numF] at hq
    by_cases b1 : st < 100
    · have d1 : decide (st < 100) = true := decide_eq_true b1
      repeat' (first
    | (with_reducible first | refine W_pushC fun K hK => ?_ | refine W_blockI ?_ | refine W_scopeI ?_ | refine W_labelI ?_ | refine W_skipI ?_ | refine W_retI ?_ | refine W_exitI ?_ | refine then_normalI ?_ | refine then_retI ?_ | refine then_exitI ?_ | refine inBlock_normalI ?_ | refine inBlock_retI ?_ | refine inBlock_exitI ?_ | refine inBlock_exitN (by decide) ?_)
    | ((with_reducible first | refine bodyQ_normal0 ?_ | refine bodyQ_normal1 ?_ | refine bodyQ_normal2 ?_ | refine bodyQ_normal3 ?_ | refine bodyQ_normal4 ?_ | refine bodyQ_ret0 ?_ | refine bodyQ_ret1 ?_ | refine bodyQ_ret2 ?_ | refine bodyQ_ret3 ?_ | refine bodyQ_ret4 ?_); (try simp only [EVB, Nat.reduceEqDiff, reduceIte]))
    | (with_reducible refine Cont.use (by assumption) ?_)
    | (with_reducible first | refine hcA ?_ | refine hcB ?_)
    | ((with_reducible show W _ _ (.region _ _ true) _ _ _); first | (refine W_drawn (fl := [true, true, true, true, true, true, true, true, true, true, true, true, true, true, true, true, true, true, false, true, true, true, true]) (by decide +kernel) ?_) | (refine W_drawn (fl := [true]) (by decide +kernel) ?_))
    | ((with_reducible first | refine W_condG fun cA cB hcA hcB => ?_ | refine W_regionI ?_ | show O _ _ _ _ _ _ _ _ | show OK _ _ _ _ _ _ _ _ _ | show OKF _ _ _ _ _ _ _ _ _ _ | show OKT _ _ _ _ _ _ _ _ _ _ _ _ | show _ ∧ _ | show CG _ _ _ | show CB _ _ _); simp (disch := first | ((with_reducible show isStop _ = false); rfl) | ((with_reducible show isP _ = true); rfl) | ((with_reducible show (isStop _ || isP _) = false); rfl) | assumption | (simp only [GSB, Nat.reduceEqDiff, reduceIte]; done) | omega | (with_reducible decide) | (simp only [DSB, Go.Proofs.YtdmbgbennlnpcaaDoorAbs.oneC, Go.Proofs.YtdmbgbennlnpcaaDoorAbs.St.next_withLow, Nat.reduceAdd, Nat.reduceLeDiff] <;> omega) | fail) only [↓DN, ↓reduceIte, UP, CGB, Int.reduceEq, Int.reduceLT, Int.reduceLE, Nat.reduceEqDiff, Nat.reduceAdd, Nat.reduceMul, Nat.reduceSub, Int.reduceToNat, Nat.reduceLeDiff, PF, isStop, isP, goInt, beq_self_eq_true, decide_true, decide_false, Int.toNat_natCast, Int.natCast_zero, hS0, hb, d1])
    | ((with_reducible refine CB_intro (fun ht => hcA ?_) (fun ht => hcB ?_)) <;> (first | (simp only [Bool.true_eq_false, Bool.false_eq_true] at ht; done) | ((try simp only [Bool.not_eq_true', Bool.not_eq_false'] at ht); (try simp only [ht]); (try simp only [HTN] at ht); (try (exfalso; omega)))))
    | ((with_reducible refine W_regionI ?_); simp only [List.append_eq, List.cons_append, List.nil_append])
    | (with_reducible refine O_splitG fun cA cB hcA hcB => ?_)
    | (exact hq))
    · have d1 : decide (st < 100) = false := decide_eq_false b1
      by_cases b2 : 999 < st
      · have d2 : decide ((999 : Int) < st) = true := decide_eq_true b2
        repeat' (first
    | (with_reducible first | refine W_pushC fun K hK => ?_ | refine W_blockI ?_ | refine W_scopeI ?_ | refine W_labelI ?_ | refine W_skipI ?_ | refine W_retI ?_ | refine W_exitI ?_ | refine then_normalI ?_ | refine then_retI ?_ | refine then_exitI ?_ | refine inBlock_normalI ?_ | refine inBlock_retI ?_ | refine inBlock_exitI ?_ | refine inBlock_exitN (by decide) ?_)
    | ((with_reducible first | refine bodyQ_normal0 ?_ | refine bodyQ_normal1 ?_ | refine bodyQ_normal2 ?_ | refine bodyQ_normal3 ?_ | refine bodyQ_normal4 ?_ | refine bodyQ_ret0 ?_ | refine bodyQ_ret1 ?_ | refine bodyQ_ret2 ?_ | refine bodyQ_ret3 ?_ | refine bodyQ_ret4 ?_); (try simp only [EVB, Nat.reduceEqDiff, reduceIte]))
    | (with_reducible refine Cont.use (by assumption) ?_)
    | (with_reducible first | refine hcA ?_ | refine hcB ?_)
    | ((with_reducible show W _ _ (.region _ _ true) _ _ _); first | (refine W_drawn (fl := [true, true, true, true, true, true, true, true, true, true, true, true, true, true, true, true, true, true, false, true, true, true, true]) (by decide +kernel) ?_) | (refine W_drawn (fl := [true]) (by decide +kernel) ?_))
    | ((with_reducible first | refine W_condG fun cA cB hcA hcB => ?_ | refine W_regionI ?_ | show O _ _ _ _ _ _ _ _ | show OK _ _ _ _ _ _ _ _ _ | show OKF _ _ _ _ _ _ _ _ _ _ | show OKT _ _ _ _ _ _ _ _ _ _ _ _ | show _ ∧ _ | show CG _ _ _ | show CB _ _ _); simp (disch := first | ((with_reducible show isStop _ = false); rfl) | ((with_reducible show isP _ = true); rfl) | ((with_reducible show (isStop _ || isP _) = false); rfl) | assumption | (simp only [GSB, Nat.reduceEqDiff, reduceIte]; done) | omega | (with_reducible decide) | (simp only [DSB, Go.Proofs.YtdmbgbennlnpcaaDoorAbs.oneC, Go.Proofs.YtdmbgbennlnpcaaDoorAbs.St.next_withLow, Nat.reduceAdd, Nat.reduceLeDiff] <;> omega) | fail) only [↓DN, ↓reduceIte, UP, CGB, Int.reduceEq, Int.reduceLT, Int.reduceLE, Nat.reduceEqDiff, Nat.reduceAdd, Nat.reduceMul, Nat.reduceSub, Int.reduceToNat, Nat.reduceLeDiff, PF, isStop, isP, goInt, beq_self_eq_true, decide_true, decide_false, Int.toNat_natCast, Int.natCast_zero, hS0, hb, d1, d2])
    | ((with_reducible refine CB_intro (fun ht => hcA ?_) (fun ht => hcB ?_)) <;> (first | (simp only [Bool.true_eq_false, Bool.false_eq_true] at ht; done) | ((try simp only [Bool.not_eq_true', Bool.not_eq_false'] at ht); (try simp only [ht]); (try simp only [HTN] at ht); (try (exfalso; omega)))))
    | ((with_reducible refine W_regionI ?_); simp only [List.append_eq, List.cons_append, List.nil_append])
    | (with_reducible refine O_splitG fun cA cB hcA hcB => ?_)
    | (exact hq))
      · have d2 : decide ((999 : Int) < st) = false := decide_eq_false b2
        by_cases b3 : allB valB r = true
        · have b4 : n < 0 ∨ 1 < n := Decidable.byContradiction fun q => hL ⟨by omega, by omega, b3, by omega⟩
          by_cases b5 : n < 0
          · have hn0 : decide (n < 0) = true := decide_eq_true b5
            repeat' (first
    | (with_reducible first | refine W_pushC fun K hK => ?_ | refine W_blockI ?_ | refine W_scopeI ?_ | refine W_labelI ?_ | refine W_skipI ?_ | refine W_retI ?_ | refine W_exitI ?_ | refine then_normalI ?_ | refine then_retI ?_ | refine then_exitI ?_ | refine inBlock_normalI ?_ | refine inBlock_retI ?_ | refine inBlock_exitI ?_ | refine inBlock_exitN (by decide) ?_)
    | ((with_reducible first | refine bodyQ_normal0 ?_ | refine bodyQ_normal1 ?_ | refine bodyQ_normal2 ?_ | refine bodyQ_normal3 ?_ | refine bodyQ_normal4 ?_ | refine bodyQ_ret0 ?_ | refine bodyQ_ret1 ?_ | refine bodyQ_ret2 ?_ | refine bodyQ_ret3 ?_ | refine bodyQ_ret4 ?_); (try simp only [EVB, Nat.reduceEqDiff, reduceIte]))
    | ((with_reducible show C _ _ _ _ _ _); first | (refine words_C h (by omega) ?_))
    | (with_reducible refine Cont.use (by assumption) ?_)
    | (with_reducible first | refine hcA ?_ | refine hcB ?_)
    | ((with_reducible show W _ _ (.region _ _ true) _ _ _); first | (refine W_drawn (fl := [true, true, true, true, true, true, true, true, true, true, true, true, true, true, true, true, true, true, false, true, true, true, true]) (by decide +kernel) ?_) | (refine W_drawn (fl := [true]) (by decide +kernel) ?_))
    | ((with_reducible first | refine W_condG fun cA cB hcA hcB => ?_ | refine W_regionI ?_ | show O _ _ _ _ _ _ _ _ | show OK _ _ _ _ _ _ _ _ _ | show OKF _ _ _ _ _ _ _ _ _ _ | show OKT _ _ _ _ _ _ _ _ _ _ _ _ | show _ ∧ _ | show CG _ _ _ | show CB _ _ _); simp (disch := first | ((with_reducible show isStop _ = false); rfl) | ((with_reducible show isP _ = true); rfl) | ((with_reducible show (isStop _ || isP _) = false); rfl) | assumption | (simp only [GSB, Nat.reduceEqDiff, reduceIte]; done) | omega | (with_reducible decide) | (simp only [DSB, Go.Proofs.YtdmbgbennlnpcaaDoorAbs.oneC, Go.Proofs.YtdmbgbennlnpcaaDoorAbs.St.next_withLow, Nat.reduceAdd, Nat.reduceLeDiff] <;> omega) | fail) only [↓DN, ↓reduceIte, UP, CGB, Int.reduceEq, Int.reduceLT, Int.reduceLE, Nat.reduceEqDiff, Nat.reduceAdd, Nat.reduceMul, Nat.reduceSub, Int.reduceToNat, Nat.reduceLeDiff, PF, isStop, isP, goInt, beq_self_eq_true, decide_true, decide_false, Int.toNat_natCast, Int.natCast_zero, hS0, hb, d1, d2, b3, hn0])
    | ((with_reducible refine CB_intro (fun ht => hcA ?_) (fun ht => hcB ?_)) <;> (first | (simp only [Bool.true_eq_false, Bool.false_eq_true] at ht; done) | ((try simp only [Bool.not_eq_true', Bool.not_eq_false'] at ht); (try simp only [ht]); (try simp only [HTN] at ht); (try (exfalso; omega)))))
    | ((with_reducible refine W_regionI ?_); simp only [List.append_eq, List.cons_append, List.nil_append])
    | (with_reducible refine O_splitG fun cA cB hcA hcB => ?_)
    | (exact hq))
          · have hn0 : decide (n < 0) = false := decide_eq_false b5
            have hn1 : decide ((1 : Int) < n) = true := decide_eq_true (by omega)
            repeat' (first
    | (with_reducible first | refine W_pushC fun K hK => ?_ | refine W_blockI ?_ | refine W_scopeI ?_ | refine W_labelI ?_ | refine W_skipI ?_ | refine W_retI ?_ | refine W_exitI ?_ | refine then_normalI ?_ | refine then_retI ?_ | refine then_exitI ?_ | refine inBlock_normalI ?_ | refine inBlock_retI ?_ | refine inBlock_exitI ?_ | refine inBlock_exitN (by decide) ?_)
    | ((with_reducible first | refine bodyQ_normal0 ?_ | refine bodyQ_normal1 ?_ | refine bodyQ_normal2 ?_ | refine bodyQ_normal3 ?_ | refine bodyQ_normal4 ?_ | refine bodyQ_ret0 ?_ | refine bodyQ_ret1 ?_ | refine bodyQ_ret2 ?_ | refine bodyQ_ret3 ?_ | refine bodyQ_ret4 ?_); (try simp only [EVB, Nat.reduceEqDiff, reduceIte]))
    | ((with_reducible show C _ _ _ _ _ _); first | (refine words_C h (by omega) ?_))
    | (with_reducible refine Cont.use (by assumption) ?_)
    | (with_reducible first | refine hcA ?_ | refine hcB ?_)
    | ((with_reducible show W _ _ (.region _ _ true) _ _ _); first | (refine W_drawn (fl := [true, true, true, true, true, true, true, true, true, true, true, true, true, true, true, true, true, true, false, true, true, true, true]) (by decide +kernel) ?_) | (refine W_drawn (fl := [true]) (by decide +kernel) ?_))
    | ((with_reducible first | refine W_condG fun cA cB hcA hcB => ?_ | refine W_regionI ?_ | show O _ _ _ _ _ _ _ _ | show OK _ _ _ _ _ _ _ _ _ | show OKF _ _ _ _ _ _ _ _ _ _ | show OKT _ _ _ _ _ _ _ _ _ _ _ _ | show _ ∧ _ | show CG _ _ _ | show CB _ _ _); simp (disch := first | ((with_reducible show isStop _ = false); rfl) | ((with_reducible show isP _ = true); rfl) | ((with_reducible show (isStop _ || isP _) = false); rfl) | assumption | (simp only [GSB, Nat.reduceEqDiff, reduceIte]; done) | omega | (with_reducible decide) | (simp only [DSB, Go.Proofs.YtdmbgbennlnpcaaDoorAbs.oneC, Go.Proofs.YtdmbgbennlnpcaaDoorAbs.St.next_withLow, Nat.reduceAdd, Nat.reduceLeDiff] <;> omega) | fail) only [↓DN, ↓reduceIte, UP, CGB, Int.reduceEq, Int.reduceLT, Int.reduceLE, Nat.reduceEqDiff, Nat.reduceAdd, Nat.reduceMul, Nat.reduceSub, Int.reduceToNat, Nat.reduceLeDiff, PF, isStop, isP, goInt, beq_self_eq_true, decide_true, decide_false, Int.toNat_natCast, Int.natCast_zero, hS0, hb, d1, d2, b3, hn0, hn1])
    | ((with_reducible refine CB_intro (fun ht => hcA ?_) (fun ht => hcB ?_)) <;> (first | (simp only [Bool.true_eq_false, Bool.false_eq_true] at ht; done) | ((try simp only [Bool.not_eq_true', Bool.not_eq_false'] at ht); (try simp only [ht]); (try simp only [HTN] at ht); (try (exfalso; omega)))))
    | ((with_reducible refine W_regionI ?_); simp only [List.append_eq, List.cons_append, List.nil_append])
    | (with_reducible refine O_splitG fun cA cB hcA hcB => ?_)
    | (exact hq))
        · have b3 : allB valB r = false := by simpa using b3
          repeat' (first
    | (with_reducible first | refine W_pushC fun K hK => ?_ | refine W_blockI ?_ | refine W_scopeI ?_ | refine W_labelI ?_ | refine W_skipI ?_ | refine W_retI ?_ | refine W_exitI ?_ | refine then_normalI ?_ | refine then_retI ?_ | refine then_exitI ?_ | refine inBlock_normalI ?_ | refine inBlock_retI ?_ | refine inBlock_exitI ?_ | refine inBlock_exitN (by decide) ?_)
    | ((with_reducible first | refine bodyQ_normal0 ?_ | refine bodyQ_normal1 ?_ | refine bodyQ_normal2 ?_ | refine bodyQ_normal3 ?_ | refine bodyQ_normal4 ?_ | refine bodyQ_ret0 ?_ | refine bodyQ_ret1 ?_ | refine bodyQ_ret2 ?_ | refine bodyQ_ret3 ?_ | refine bodyQ_ret4 ?_); (try simp only [EVB, Nat.reduceEqDiff, reduceIte]))
    | ((with_reducible show C _ _ _ _ _ _); first | (refine words_C h (by omega) ?_))
    | (with_reducible refine Cont.use (by assumption) ?_)
    | (with_reducible first | refine hcA ?_ | refine hcB ?_)
    | ((with_reducible show W _ _ (.region _ _ true) _ _ _); first | (refine W_drawn (fl := [true, true, true, true, true, true, true, true, true, true, true, true, true, true, true, true, true, true, false, true, true, true, true]) (by decide +kernel) ?_) | (refine W_drawn (fl := [true]) (by decide +kernel) ?_))
    | ((with_reducible first | refine W_condG fun cA cB hcA hcB => ?_ | refine W_regionI ?_ | show O _ _ _ _ _ _ _ _ | show OK _ _ _ _ _ _ _ _ _ | show OKF _ _ _ _ _ _ _ _ _ _ | show OKT _ _ _ _ _ _ _ _ _ _ _ _ | show _ ∧ _ | show CG _ _ _ | show CB _ _ _); simp (disch := first | ((with_reducible show isStop _ = false); rfl) | ((with_reducible show isP _ = true); rfl) | ((with_reducible show (isStop _ || isP _) = false); rfl) | assumption | (simp only [GSB, Nat.reduceEqDiff, reduceIte]; done) | omega | (with_reducible decide) | (simp only [DSB, Go.Proofs.YtdmbgbennlnpcaaDoorAbs.oneC, Go.Proofs.YtdmbgbennlnpcaaDoorAbs.St.next_withLow, Nat.reduceAdd, Nat.reduceLeDiff] <;> omega) | fail) only [↓DN, ↓reduceIte, UP, CGB, Int.reduceEq, Int.reduceLT, Int.reduceLE, Nat.reduceEqDiff, Nat.reduceAdd, Nat.reduceMul, Nat.reduceSub, Int.reduceToNat, Nat.reduceLeDiff, PF, isStop, isP, goInt, beq_self_eq_true, decide_true, decide_false, Int.toNat_natCast, Int.natCast_zero, hS0, hb, d1, d2, b3])
    | ((with_reducible refine CB_intro (fun ht => hcA ?_) (fun ht => hcB ?_)) <;> (first | (simp only [Bool.true_eq_false, Bool.false_eq_true] at ht; done) | ((try simp only [Bool.not_eq_true', Bool.not_eq_false'] at ht); (try simp only [ht]); (try simp only [HTN] at ht); (try (exfalso; omega)))))
    | ((with_reducible refine W_regionI ?_); simp only [List.append_eq, List.cons_append, List.nil_append])
    | (with_reducible refine O_splitG fun cA cB hcA hcB => ?_)
    | (exact hq))
end
end Go.Proofs.YtdmbgbennlnpcaaDoor.Q
namespace Go.Proofs.YtdmbgbennlnpcaaDoor.Q
open Go Go.Proofs.YtdmbgbennlnpcaaDoorAbs Go.Proofs
set_option linter.unusedVariables false
set_option linter.unusedSimpArgs false
set_option maxRecDepth 100000
set_option maxHeartbeats 4000000
attribute [local irreducible] Go.Proofs.YtdmbgbennlnpcaaDoorAbs.O Go.Proofs.YtdmbgbennlnpcaaDoorAbs.W Go.Proofs.YtdmbgbennlnpcaaDoorAbs.C Go.Proofs.YtdmbgbennlnpcaaDoorAbs.OK Go.Proofs.YtdmbgbennlnpcaaDoorAbs.OKF Go.Proofs.YtdmbgbennlnpcaaDoorAbs.OKT Go.Proofs.YtdmbgbennlnpcaaDoorAbs.then_ Go.Proofs.YtdmbgbennlnpcaaDoorAbs.inBlock_ Go.Proofs.YtdmbgbennlnpcaaDoorAbs.bodyQ Go.Proofs.YtdmbgbennlnpcaaDoorAbs.Cont
section
variable {I : Prims} {S S0 : St} {c : Int} {Q : Value → St → Prop} {e : Env}
theorem twin_L (h : HP I) {v : Value} {l : List Fld} (hF : SF S v l) (hn : l.length ≤ 1048576)
    (hQ : ∀ v' S', Own 50 2 S' v' l.length (fldv l) → KpL S S' → (∀ i, blkOf v' = some i → S.next ≤ i) → Q v' S') : C Tryd.prog I 17 #[v] S Q := by
  refine C_body (rs := [.tmp 2]) (h.no 17 (by decide)) Tryd.func17 rfl rfl ok17 ?_
  obtain ⟨sz24, u9, sz3, u3, sz9, sz22, u22, u25, sz5, u5, sz38, u4, sz49, sz50, u58, u70, sz85, sz98, u103, sz25, u114, sz113, u88, sz27, sz108, u108, sz4, sz96, u96, u2, sz123, u123, sz130, u130, u139, sz103, u140, sz141, u142, u141, u21⟩ := UF
  have hsrc := hF.src
  repeat' (first
    | (with_reducible first | refine W_pushC fun K hK => ?_ | refine W_blockI ?_ | refine W_scopeI ?_ | refine W_labelI ?_ | refine W_skipI ?_ | refine W_retI ?_ | refine W_exitI ?_ | refine then_normalI ?_ | refine then_retI ?_ | refine then_exitI ?_ | refine inBlock_normalI ?_ | refine inBlock_retI ?_ | refine inBlock_exitI ?_ | refine inBlock_exitN (by decide) ?_)
    | ((with_reducible first | refine bodyQ_normal0 ?_ | refine bodyQ_normal1 ?_ | refine bodyQ_normal2 ?_ | refine bodyQ_normal3 ?_ | refine bodyQ_normal4 ?_ | refine bodyQ_ret0 ?_ | refine bodyQ_ret1 ?_ | refine bodyQ_ret2 ?_ | refine bodyQ_ret3 ?_ | refine bodyQ_ret4 ?_); (try simp only [EVB, Nat.reduceEqDiff, reduceIte]))
    | (with_reducible refine Cont.use (by assumption) ?_)
    | (with_reducible first | refine hcA ?_ | refine hcB ?_)
    | ((with_reducible first | refine W_condG fun cA cB hcA hcB => ?_ | refine W_regionI ?_ | show O _ _ _ _ _ _ _ _ | show OK _ _ _ _ _ _ _ _ _ | show OKF _ _ _ _ _ _ _ _ _ _ | show OKT _ _ _ _ _ _ _ _ _ _ _ _ | show _ ∧ _ | show CG _ _ _ | show CB _ _ _); simp (disch := first | ((with_reducible show isStop _ = false); rfl) | ((with_reducible show isP _ = true); rfl) | ((with_reducible show (isStop _ || isP _) = false); rfl) | assumption | (simp only [GSB, Nat.reduceEqDiff, reduceIte]; done) | omega | (with_reducible decide) | (simp only [DSB, Go.Proofs.YtdmbgbennlnpcaaDoorAbs.oneC, Go.Proofs.YtdmbgbennlnpcaaDoorAbs.St.next_withLow, Nat.reduceAdd, Nat.reduceLeDiff] <;> omega) | fail) only [↓DN, ↓reduceIte, UP, CGB, Int.reduceEq, Int.reduceLT, Int.reduceLE, Nat.reduceEqDiff, Nat.reduceAdd, Nat.reduceMul, Nat.reduceSub, Int.reduceToNat, Nat.reduceLeDiff, PF, isStop, isP, goInt, beq_self_eq_true, decide_true, decide_false, Int.toNat_natCast, Int.natCast_zero, nn_eq, nn_ne, errW0, errW1])
    | ((with_reducible refine CB_intro (fun ht => hcA ?_) (fun ht => hcB ?_)) <;> (first | (simp only [Bool.true_eq_false, Bool.false_eq_true] at ht; done) | ((try simp only [Bool.not_eq_true', Bool.not_eq_false'] at ht); (try simp only [ht]); (try simp only [HTN] at ht); (try (exfalso; omega)))))
    | ((with_reducible refine W_regionI ?_); simp only [List.append_eq, List.cons_append, List.nil_append])
    | (with_reducible refine O_splitG fun cA cB hcA hcB => ?_))
  refine O_appendL (P := Tryd.prog) (elem := 50) (size := 2) (bytes := 32) (n := 0) (m := l.length) (xs := []) (ys := fldv l) u22 sz50 by50 ze50 ⟨by decide, by decide, rfl⟩ (Own.nil _ _ _) (by simp only [EVB, Nat.reduceEqDiff, reduceIte]; exact hsrc) ⟨fldv_len l, fldv_one l⟩ (by omega) fun v' S' hO hK hB hL => ?_
  rw [List.nil_append, Nat.zero_add] at hO
  have hN : ∀ i, blkOf v' = some i → S.next ≤ i := blk_new hB (fun q hq => by cases hq) (Nat.le_refl _)
  have kL : KpL S S' := ⟨hK.1, hK.2, fun m h1 _ => hL m h1 (fun b hb => by cases hb)⟩
  repeat' (first
    | (with_reducible first | refine W_pushC fun K hK => ?_ | refine W_blockI ?_ | refine W_scopeI ?_ | refine W_labelI ?_ | refine W_skipI ?_ | refine W_retI ?_ | refine W_exitI ?_ | refine then_normalI ?_ | refine then_retI ?_ | refine then_exitI ?_ | refine inBlock_normalI ?_ | refine inBlock_retI ?_ | refine inBlock_exitI ?_ | refine inBlock_exitN (by decide) ?_)
    | ((with_reducible first | refine bodyQ_normal0 ?_ | refine bodyQ_normal1 ?_ | refine bodyQ_normal2 ?_ | refine bodyQ_normal3 ?_ | refine bodyQ_normal4 ?_ | refine bodyQ_ret0 ?_ | refine bodyQ_ret1 ?_ | refine bodyQ_ret2 ?_ | refine bodyQ_ret3 ?_ | refine bodyQ_ret4 ?_); (try simp only [EVB, Nat.reduceEqDiff, reduceIte]))
    | (with_reducible refine Cont.use (by assumption) ?_)
    | (with_reducible first | refine hcA ?_ | refine hcB ?_)
    | ((with_reducible first | refine W_condG fun cA cB hcA hcB => ?_ | refine W_regionI ?_ | show O _ _ _ _ _ _ _ _ | show OK _ _ _ _ _ _ _ _ _ | show OKF _ _ _ _ _ _ _ _ _ _ | show OKT _ _ _ _ _ _ _ _ _ _ _ _ | show _ ∧ _ | show CG _ _ _ | show CB _ _ _); simp (disch := first | ((with_reducible show isStop _ = false); rfl) | ((with_reducible show isP _ = true); rfl) | ((with_reducible show (isStop _ || isP _) = false); rfl) | assumption | (simp only [GSB, Nat.reduceEqDiff, reduceIte]; done) | omega | (with_reducible decide) | (simp only [DSB, Go.Proofs.YtdmbgbennlnpcaaDoorAbs.oneC, Go.Proofs.YtdmbgbennlnpcaaDoorAbs.St.next_withLow, Nat.reduceAdd, Nat.reduceLeDiff] <;> omega) | fail) only [↓DN, ↓reduceIte, UP, CGB, Int.reduceEq, Int.reduceLT, Int.reduceLE, Nat.reduceEqDiff, Nat.reduceAdd, Nat.reduceMul, Nat.reduceSub, Int.reduceToNat, Nat.reduceLeDiff, PF, isStop, isP, goInt, beq_self_eq_true, decide_true, decide_false, Int.toNat_natCast, Int.natCast_zero, nn_eq, nn_ne, errW0, errW1])
    | ((with_reducible refine CB_intro (fun ht => hcA ?_) (fun ht => hcB ?_)) <;> (first | (simp only [Bool.true_eq_false, Bool.false_eq_true] at ht; done) | ((try simp only [Bool.not_eq_true', Bool.not_eq_false'] at ht); (try simp only [ht]); (try simp only [HTN] at ht); (try (exfalso; omega)))))
    | ((with_reducible refine W_regionI ?_); simp only [List.append_eq, List.cons_append, List.nil_append])
    | (with_reducible refine O_splitG fun cA cB hcA hcB => ?_)
    | (exact hQ _ _ hO kL hN))
theorem kept_upd1 (S : St) (i : Nat) (B : Blk) : Kept S (S.upd i B) (some i) := ⟨Nat.le_refl _, fun j hj ho => St.get_upd_ne _ _ (fun e => ho (by rw [e]))⟩
def resB (o : Option Int) (hd : List UInt8) : List UInt8 := match o with
  | none => hd
  | some _ => []
theorem res_own {S S' : St} {v : Value} {o : Option Int} {hd : List UInt8} (p1 : o = none → Acc S S' v hd) (p2 : o ≠ none → v = .slice none 0 0) : Own 5 1 S' v (resB o hd).length (u8v (resB o hd)) := by
  cases o with
  | none => exact (p1 rfl).own
  | some c => rw [p2 (by simp)]; exact Own.nil _ _ _
theorem heads_walk (h : HW I) (hPG : PG S) {m t : ByteArray} {n : Int} {vl : Value} {l : List Fld} (hF : SF S vl l) (hm : m.size ≤ 1048576) (ht : t.size ≤ 1048576) (hn : l.length ≤ 1048576) (hsz : ∀ f ∈ l, f.1.size ≤ 1048576 ∧ f.2.size ≤ 1048576)
    {r : ByteArray} {n' st : Int} {vl' : Value} {l' : List Fld} (hF' : SF S vl' l') (hr : r.size ≤ 1048576) (hn' : l'.length ≤ 1048576) (hsz' : ∀ f ∈ l', f.1.size ≤ 1048576 ∧ f.2.size ≤ 1048576)
    (hQ : ∀ S', Q (.bool true) S') : C Tryd.prog I 5 #[.agg #[.string m, .string t, .int .i64 n, vl], .agg #[.int .i64 st, .string r, .int .i64 n', vl']] S Q := by
  refine C_body (rs := [.tmp 4]) (h.no 5 (by decide)) Tryd.func5 rfl rfl ok5 ?_
  obtain ⟨sz24, u9, sz3, u3, sz9, sz22, u22, u25, sz5, u5, sz38, u4, sz49, sz50, u58, u70, sz85, sz98, u103, sz25, u114, sz113, u88, sz27, sz108, u108, sz4, sz96, u96, u2, sz123, u123, sz130, u130, u139, sz103, u140, sz141, u142, u141, u21⟩ := UF
  have ki := ki27
  obtain ⟨va, vk, ev, -⟩ := hF.rf
  obtain ⟨va', vk', ev', -⟩ := hF'.rf
  subst ev ev'
  obtain ⟨S1, hS1⟩ : ∃ S1, (S.push ⟨[.string m, .string t, .int .i64 n, Value.slice va l.length vk], 38, true, 0⟩).push ⟨[.int .i64 st, .string r, .int .i64 n', Value.slice va' l'.length vk'], 24, true, 0⟩ = S1 := ⟨_, rfl⟩
  have n1 : S1.next = S.next + 2 := by rw [← hS1]; rfl
  have k1 : Kept S S1 none := by rw [← hS1]; exact (Kept.push _ none).trans (Kept.push _ none)
  have g1 : S1.get S.next = some ⟨[.string m, .string t, .int .i64 n, Value.slice va l.length vk], 38, true, 0⟩ := by
    rw [← hS1, St.get_push_ne _ _ (by simp), St.get_push_self]
  have g2 : S1.get (S.next + 1) = some ⟨[.int .i64 st, .string r, .int .i64 n', Value.slice va' l'.length vk'], 24, true, 0⟩ := by
    rw [← hS1, show S.next + 1 = (S.push ⟨[.string m, .string t, .int .i64 n, Value.slice va l.length vk], 38, true, 0⟩).next from rfl, St.get_push_self]
  have gB : ((S1.push ⟨[.string ⟨#[]⟩, .string ⟨#[]⟩, .int .i64 0, .slice none 0 0], 38, true, 0⟩).push ⟨[.int .i64 0, .string ⟨#[]⟩, .int .i64 0, .slice none 0 0], 24, true, 0⟩).get (S1.next + 1) = some ⟨[.int .i64 0, .string ⟨#[]⟩, .int .i64 0, .slice none 0 0], 24, true, 0⟩ := by
    rw [show S1.next + 1 = (S1.push ⟨[.string ⟨#[]⟩, .string ⟨#[]⟩, .int .i64 0, .slice none 0 0], 38, true, 0⟩).next from rfl, St.get_push_self]
  obtain ⟨S2, hS2⟩ : ∃ S2, ((((S1.push ⟨[.string ⟨#[]⟩, .string ⟨#[]⟩, .int .i64 0, .slice none 0 0], 38, true, 0⟩).push ⟨[.int .i64 0, .string ⟨#[]⟩, .int .i64 0, .slice none 0 0], 24, true, 0⟩).withLow S1.low).upd S1.next ⟨[.string m, .string t, .int .i64 n, Value.slice va l.length vk], 38, true, 4⟩).upd (S1.next + 1) ⟨[.int .i64 st, .string r, .int .i64 n', Value.slice va' l'.length vk'], 24, true, 4⟩ = S2 := ⟨_, rfl⟩
  have n2 : S2.next = S1.next + 2 := by rw [← hS2]; rfl
  have k2 : Kept S1 S2 none := by
    rw [← hS2]
    refine ⟨by show S1.next ≤ S1.next + 2; omega, fun i hi _ => ?_⟩
    rw [St.get_upd_ne _ _ (by omega), St.get_upd_ne _ _ (by omega), St.get_withLow, St.get_push_ne _ _ (by simp only [St.next_push]; omega), St.get_push_ne _ _ (by omega)]
  have gx2 : S2.get S1.next = some ⟨[.string m, .string t, .int .i64 n, Value.slice va l.length vk], 38, true, 4⟩ := by rw [← hS2, St.get_upd_ne _ _ (by omega), St.get_upd_self]
  have gy2 : S2.get (S1.next + 1) = some ⟨[.int .i64 st, .string r, .int .i64 n', Value.slice va' l'.length vk'], 24, true, 4⟩ := by rw [← hS2, St.get_upd_self]
  have g12 := k2.get (by omega) g1
  have g22 := k2.get (by omega) g2
  have kk2 := k1.trans k2
  repeat' (first
    | (with_reducible first | refine W_pushC fun K hK => ?_ | refine W_blockI ?_ | refine W_scopeI ?_ | refine W_labelI ?_ | refine W_skipI ?_ | refine W_retI ?_ | refine W_exitI ?_ | refine then_normalI ?_ | refine then_retI ?_ | refine then_exitI ?_ | refine inBlock_normalI ?_ | refine inBlock_retI ?_ | refine inBlock_exitI ?_ | refine inBlock_exitN (by decide) ?_)
    | ((with_reducible first | refine bodyQ_normal0 ?_ | refine bodyQ_normal1 ?_ | refine bodyQ_normal2 ?_ | refine bodyQ_normal3 ?_ | refine bodyQ_normal4 ?_ | refine bodyQ_ret0 ?_ | refine bodyQ_ret1 ?_ | refine bodyQ_ret2 ?_ | refine bodyQ_ret3 ?_ | refine bodyQ_ret4 ?_); (try simp only [EVB, Nat.reduceEqDiff, reduceIte]))
    | (with_reducible refine Cont.use (by assumption) ?_)
    | (with_reducible first | refine hcA ?_ | refine hcB ?_)
    | ((with_reducible show W _ _ (.region _ _ true) _ _ _); first | (refine W_soft (fl := [true, true, true, true, false, false]) (ps := [(2, 5), (3, 5), (6, 5), (2, 6), (3, 6), (5, 6)]) (by decide +kernel) (by decide +kernel) (by decide +kernel) ?_) | (refine W_drawn (fl := [true, true, true, true, true, false, true, false, true, false]) (by decide +kernel) ?_))
    | (refine SepK_intro (by simp only [SepL, EVB, Nat.reduceEqDiff, reduceIte, hS1, g1, g2, gB, hS2, g12, g22]; simp [blkV]; try omega) ?_)
    | ((with_reducible first | refine W_condG fun cA cB hcA hcB => ?_ | refine W_regionI ?_ | show O _ _ _ _ _ _ _ _ | show OK _ _ _ _ _ _ _ _ _ | show OKF _ _ _ _ _ _ _ _ _ _ | show OKT _ _ _ _ _ _ _ _ _ _ _ _ | show _ ∧ _ | show CG _ _ _ | show CB _ _ _); simp (disch := first | ((with_reducible show isStop _ = false); rfl) | ((with_reducible show isP _ = true); rfl) | ((with_reducible show (isStop _ || isP _) = false); rfl) | assumption | (simp only [GSB, Nat.reduceEqDiff, reduceIte]; done) | omega | (with_reducible decide) | (simp only [DSB, Go.Proofs.YtdmbgbennlnpcaaDoorAbs.oneC, Go.Proofs.YtdmbgbennlnpcaaDoorAbs.St.next_withLow, Nat.reduceAdd, Nat.reduceLeDiff] <;> omega) | fail) only [↓DN, ↓reduceIte, UP, CGB, Int.reduceEq, Int.reduceLT, Int.reduceLE, Nat.reduceEqDiff, Nat.reduceAdd, Nat.reduceMul, Nat.reduceSub, Int.reduceToNat, Nat.reduceLeDiff, PF, isStop, isP, goInt, beq_self_eq_true, decide_true, decide_false, Int.toNat_natCast, Int.natCast_zero, nn_eq, nn_ne, errW0, errW1, hS1, g1, g2, gB, hS2, g12, g22])
    | ((with_reducible refine CB_intro (fun ht => hcA ?_) (fun ht => hcB ?_)) <;> (first | (simp only [Bool.true_eq_false, Bool.false_eq_true] at ht; done) | ((try simp only [Bool.not_eq_true', Bool.not_eq_false'] at ht); (try simp only [ht]); (try simp only [HTN] at ht); (try (exfalso; omega)))))
    | ((with_reducible refine W_regionI ?_); simp only [List.append_eq, List.cons_append, List.nil_append])
    | (with_reducible refine O_splitG fun cA cB hcA hcB => ?_))
  refine twin_L h.toHP (hF.kept kk2) hn fun v1 S3 O1 j3 N1 => ?_
  obtain ⟨a1, c1, e1, -⟩ := RF.own O1
  subst e1
  have k3 : Kept S2 S3 none := j3.kept
  have lo3 : S2.next ≤ S3.low := j3.low S2.next (Nat.le_refl _) (Nat.le_refl _)
  have l3 := k3.1
  have g13 := k3.get (by omega) g12
  have g23 := k3.get (by omega) g22
  have gx3 := k3.get (by omega) gx2
  have gy3 := k3.get (by omega) gy2
  repeat' (first
    | (with_reducible first | refine W_pushC fun K hK => ?_ | refine W_blockI ?_ | refine W_scopeI ?_ | refine W_labelI ?_ | refine W_skipI ?_ | refine W_retI ?_ | refine W_exitI ?_ | refine then_normalI ?_ | refine then_retI ?_ | refine then_exitI ?_ | refine inBlock_normalI ?_ | refine inBlock_retI ?_ | refine inBlock_exitI ?_ | refine inBlock_exitN (by decide) ?_)
    | ((with_reducible first | refine bodyQ_normal0 ?_ | refine bodyQ_normal1 ?_ | refine bodyQ_normal2 ?_ | refine bodyQ_normal3 ?_ | refine bodyQ_normal4 ?_ | refine bodyQ_ret0 ?_ | refine bodyQ_ret1 ?_ | refine bodyQ_ret2 ?_ | refine bodyQ_ret3 ?_ | refine bodyQ_ret4 ?_); (try simp only [EVB, Nat.reduceEqDiff, reduceIte]))
    | (with_reducible refine Cont.use (by assumption) ?_)
    | (with_reducible first | refine hcA ?_ | refine hcB ?_)
    | ((with_reducible show W _ _ (.region _ _ true) _ _ _); first | (refine W_soft (fl := [true, true, true, true, false, false]) (ps := [(2, 5), (3, 5), (6, 5), (2, 6), (3, 6), (5, 6)]) (by decide +kernel) (by decide +kernel) (by decide +kernel) ?_) | (refine W_drawn (fl := [true, true, true, true, true, false, true, false, true, false]) (by decide +kernel) ?_))
    | (refine SepK_intro (by simp only [SepL, EVB, Nat.reduceEqDiff, reduceIte, g13, g23, lo3]; simp [blkV]; try omega) ?_)
    | ((with_reducible first | refine W_condG fun cA cB hcA hcB => ?_ | refine W_regionI ?_ | show O _ _ _ _ _ _ _ _ | show OK _ _ _ _ _ _ _ _ _ | show OKF _ _ _ _ _ _ _ _ _ _ | show OKT _ _ _ _ _ _ _ _ _ _ _ _ | show _ ∧ _ | show CG _ _ _ | show CB _ _ _); simp (disch := first | ((with_reducible show isStop _ = false); rfl) | ((with_reducible show isP _ = true); rfl) | ((with_reducible show (isStop _ || isP _) = false); rfl) | assumption | (simp only [GSB, Nat.reduceEqDiff, reduceIte]; done) | omega | (with_reducible decide) | (simp only [DSB, Go.Proofs.YtdmbgbennlnpcaaDoorAbs.oneC, Go.Proofs.YtdmbgbennlnpcaaDoorAbs.St.next_withLow, Nat.reduceAdd, Nat.reduceLeDiff] <;> omega) | fail) only [↓DN, ↓reduceIte, UP, CGB, Int.reduceEq, Int.reduceLT, Int.reduceLE, Nat.reduceEqDiff, Nat.reduceAdd, Nat.reduceMul, Nat.reduceSub, Int.reduceToNat, Nat.reduceLeDiff, PF, isStop, isP, goInt, beq_self_eq_true, decide_true, decide_false, Int.toNat_natCast, Int.natCast_zero, nn_eq, nn_ne, errW0, errW1, g13, g23, lo3])
    | ((with_reducible refine CB_intro (fun ht => hcA ?_) (fun ht => hcB ?_)) <;> (first | (simp only [Bool.true_eq_false, Bool.false_eq_true] at ht; done) | ((try simp only [Bool.not_eq_true', Bool.not_eq_false'] at ht); (try simp only [ht]); (try simp only [HTN] at ht); (try (exfalso; omega)))))
    | ((with_reducible refine W_regionI ?_); simp only [List.append_eq, List.cons_append, List.nil_append])
    | (with_reducible refine O_splitG fun cA cB hcA hcB => ?_))
  refine twin_C h.toHP (hF'.kept (kk2.trans k3)) hn' fun v2 S4 O2 j4 N2 => ?_
  obtain ⟨a2, c2, e2, -⟩ := RF.own O2
  subst e2
  have k4 : Kept S3 S4 none := j4
  have l4 := k4.1
  have g14 := k4.get (by omega) g13
  have g24 := k4.get (by omega) g23
  have gx4 := k4.get (by omega) gx3
  have gy4 := k4.get (by omega) gy3
  obtain ⟨S5, hS5⟩ : ∃ S5, (S4.upd S1.next ⟨[.string m, .string t, .int .i64 n, .slice a1 l.length c1], 38, true, 4⟩).upd (S1.next + 1) ⟨[.int .i64 st, .string r, .int .i64 n', .slice a2 l'.length c2], 24, true, 4⟩ = S5 := ⟨_, rfl⟩
  have n5 : S5.next = S4.next := by rw [← hS5]; rfl
  have k15 : Kept S1 S5 none := by
    rw [← hS5]
    exact Kept.upd (Kept.upd (k2.trans (k3.trans k4)) (Nat.le_refl _) _) (Nat.le_succ _) _
  have l2 : S1.next + 2 ≤ S2.next := Nat.le_of_eq n2.symm
  have ne1 : ∀ j, j < S2.next → some j ≠ blkOf (.slice a1 l.length c1) := fun j hj e => by
    have := N1 j e.symm
    have this : S2.next ≤ j := this
    omega
  have ne2 : ∀ j, j < S2.next → some j ≠ blkOf (.slice a2 l'.length c2) := fun j hj e => by
    have := N2 j e.symm
    have this : S3.next ≤ j := this
    omega
  have O15 : Own 50 2 S5 (.slice a1 l.length c1) l.length (fldv l) := by
    rw [← hS5]
    exact ((O1.kept k4 (.inl rfl)).kept (kept_upd1 _ _ _) (.inr (ne1 _ (by omega)))).kept (kept_upd1 _ _ _) (.inr (ne1 _ (by omega)))
  have O25 : Own 50 2 S5 (.slice a2 l'.length c2) l'.length (fldv l') := by
    rw [← hS5]
    exact (O2.kept (kept_upd1 _ _ _) (.inr (ne2 _ (by omega)))).kept (kept_upd1 _ _ _) (.inr (ne2 _ (by omega)))
  have gx5 : S5.get S1.next = some ⟨[.string m, .string t, .int .i64 n, .slice a1 l.length c1], 38, true, 4⟩ := by rw [← hS5, St.get_upd_ne _ _ (by omega), St.get_upd_self]
  have gy5 : S5.get (S1.next + 1) = some ⟨[.int .i64 st, .string r, .int .i64 n', .slice a2 l'.length c2], 24, true, 4⟩ := by rw [← hS5, St.get_upd_self]
  have g15 := k15.get (by omega) g1
  have g25 := k15.get (by omega) g2
  have l5 := k15.1
  have kk5 := k1.trans k15
  have hX := RF.own O15
  have hY := RF.own O25
  generalize hbq : headB (firstQ m t (dig01 n)) l = bq
  generalize hbp : headB (firstP r (dig01 n') st) l' = bp
  generalize her : reqE m t n l = er
  generalize hes : resE r n' st l' = es
  repeat' (first
    | (with_reducible first | refine W_pushC fun K hK => ?_ | refine W_blockI ?_ | refine W_scopeI ?_ | refine W_labelI ?_ | refine W_skipI ?_ | refine W_retI ?_ | refine W_exitI ?_ | refine then_normalI ?_ | refine then_retI ?_ | refine then_exitI ?_ | refine inBlock_normalI ?_ | refine inBlock_retI ?_ | refine inBlock_exitI ?_ | refine inBlock_exitN (by decide) ?_)
    | ((with_reducible first | refine bodyQ_normal0 ?_ | refine bodyQ_normal1 ?_ | refine bodyQ_normal2 ?_ | refine bodyQ_normal3 ?_ | refine bodyQ_normal4 ?_ | refine bodyQ_ret0 ?_ | refine bodyQ_ret1 ?_ | refine bodyQ_ret2 ?_ | refine bodyQ_ret3 ?_ | refine bodyQ_ret4 ?_); (try simp only [EVB, Nat.reduceEqDiff, reduceIte]))
    | (with_reducible refine Cont.use (by assumption) ?_)
    | (with_reducible first | refine hcA ?_ | refine hcB ?_)
    | ((with_reducible show W _ _ (.region _ _ true) _ _ _); first | (refine W_soft (fl := [true, true, true, true, false, false]) (ps := [(2, 5), (3, 5), (6, 5), (2, 6), (3, 6), (5, 6)]) (by decide +kernel) (by decide +kernel) (by decide +kernel) ?_) | (refine W_drawn (fl := [true, true, true, true, true, false, true, false, true, false]) (by decide +kernel) ?_))
    | (refine SepK_intro (by simp only [SepL, EVB, Nat.reduceEqDiff, reduceIte, g14, g24, gx4, gy4, hS5, gx5, gy5, g15, g25]; simp [blkV]; try omega) ?_)
    | ((with_reducible first | refine W_condG fun cA cB hcA hcB => ?_ | refine W_regionI ?_ | show O _ _ _ _ _ _ _ _ | show OK _ _ _ _ _ _ _ _ _ | show OKF _ _ _ _ _ _ _ _ _ _ | show OKT _ _ _ _ _ _ _ _ _ _ _ _ | show _ ∧ _ | show CG _ _ _ | show CB _ _ _); simp (disch := first | ((with_reducible show isStop _ = false); rfl) | ((with_reducible show isP _ = true); rfl) | ((with_reducible show (isStop _ || isP _) = false); rfl) | assumption | (simp only [GSB, Nat.reduceEqDiff, reduceIte]; done) | omega | (with_reducible decide) | (simp only [DSB, Go.Proofs.YtdmbgbennlnpcaaDoorAbs.oneC, Go.Proofs.YtdmbgbennlnpcaaDoorAbs.St.next_withLow, Nat.reduceAdd, Nat.reduceLeDiff] <;> omega) | fail) only [↓DN, ↓reduceIte, UP, CGB, Int.reduceEq, Int.reduceLT, Int.reduceLE, Nat.reduceEqDiff, Nat.reduceAdd, Nat.reduceMul, Nat.reduceSub, Int.reduceToNat, Nat.reduceLeDiff, PF, isStop, isP, goInt, beq_self_eq_true, decide_true, decide_false, Int.toNat_natCast, Int.natCast_zero, nn_eq, nn_ne, errW0, errW1, g14, g24, gx4, gy4, hS5, gx5, gy5, g15, g25])
    | ((with_reducible refine CB_intro (fun ht => hcA ?_) (fun ht => hcB ?_)) <;> (first | (simp only [Bool.true_eq_false, Bool.false_eq_true] at ht; done) | ((try simp only [Bool.not_eq_true', Bool.not_eq_false'] at ht); (try simp only [ht]); (try simp only [HTN] at ht); (try (exfalso; omega)))))
    | ((with_reducible refine W_regionI ?_); simp only [List.append_eq, List.cons_append, List.nil_append])
    | (with_reducible refine O_splitG fun cA cB hcA hcB => ?_))
  refine Request_C h.toHP hX hm ht hn hsz (fun v6 S6 p1 p2 k6 => ?_)
  rw [her] at p1 p2 ⊢
  rw [hbq] at p1
  have O6 := res_own p1 p2
  have l6 := k6.1
  have gx6 := k6.get (by omega) gx5
  have gy6 := k6.get (by omega) gy5
  have g16 := k6.get (by omega) g15
  have g26 := k6.get (by omega) g25
  have kk6 := kk5.trans k6
  repeat' (first
    | (with_reducible first | refine W_pushC fun K hK => ?_ | refine W_blockI ?_ | refine W_scopeI ?_ | refine W_labelI ?_ | refine W_skipI ?_ | refine W_retI ?_ | refine W_exitI ?_ | refine then_normalI ?_ | refine then_retI ?_ | refine then_exitI ?_ | refine inBlock_normalI ?_ | refine inBlock_retI ?_ | refine inBlock_exitI ?_ | refine inBlock_exitN (by decide) ?_)
    | ((with_reducible first | refine bodyQ_normal0 ?_ | refine bodyQ_normal1 ?_ | refine bodyQ_normal2 ?_ | refine bodyQ_normal3 ?_ | refine bodyQ_normal4 ?_ | refine bodyQ_ret0 ?_ | refine bodyQ_ret1 ?_ | refine bodyQ_ret2 ?_ | refine bodyQ_ret3 ?_ | refine bodyQ_ret4 ?_); (try simp only [EVB, Nat.reduceEqDiff, reduceIte]))
    | (with_reducible refine Cont.use (by assumption) ?_)
    | (with_reducible first | refine hcA ?_ | refine hcB ?_)
    | ((with_reducible show W _ _ (.region _ _ true) _ _ _); first | (refine W_soft (fl := [true, true, true, true, false, false]) (ps := [(2, 5), (3, 5), (6, 5), (2, 6), (3, 6), (5, 6)]) (by decide +kernel) (by decide +kernel) (by decide +kernel) ?_) | (refine W_drawn (fl := [true, true, true, true, true, false, true, false, true, false]) (by decide +kernel) ?_))
    | (refine SepK_intro (by simp only [SepL, EVB, Nat.reduceEqDiff, reduceIte, gx6, gy6, g16, g26]; simp [blkV]; try omega) ?_)
    | ((with_reducible first | refine W_condG fun cA cB hcA hcB => ?_ | refine W_regionI ?_ | show O _ _ _ _ _ _ _ _ | show OK _ _ _ _ _ _ _ _ _ | show OKF _ _ _ _ _ _ _ _ _ _ | show OKT _ _ _ _ _ _ _ _ _ _ _ _ | show _ ∧ _ | show CG _ _ _ | show CB _ _ _); simp (disch := first | ((with_reducible show isStop _ = false); rfl) | ((with_reducible show isP _ = true); rfl) | ((with_reducible show (isStop _ || isP _) = false); rfl) | assumption | (simp only [GSB, Nat.reduceEqDiff, reduceIte]; done) | omega | (with_reducible decide) | (simp only [DSB, Go.Proofs.YtdmbgbennlnpcaaDoorAbs.oneC, Go.Proofs.YtdmbgbennlnpcaaDoorAbs.St.next_withLow, Nat.reduceAdd, Nat.reduceLeDiff] <;> omega) | fail) only [↓DN, ↓reduceIte, UP, CGB, Int.reduceEq, Int.reduceLT, Int.reduceLE, Nat.reduceEqDiff, Nat.reduceAdd, Nat.reduceMul, Nat.reduceSub, Int.reduceToNat, Nat.reduceLeDiff, PF, isStop, isP, goInt, beq_self_eq_true, decide_true, decide_false, Int.toNat_natCast, Int.natCast_zero, nn_eq, nn_ne, errW0, errW1, gx6, gy6, g16, g26])
    | ((with_reducible refine CB_intro (fun ht => hcA ?_) (fun ht => hcB ?_)) <;> (first | (simp only [Bool.true_eq_false, Bool.false_eq_true] at ht; done) | ((try simp only [Bool.not_eq_true', Bool.not_eq_false'] at ht); (try simp only [ht]); (try simp only [HTN] at ht); (try (exfalso; omega)))))
    | ((with_reducible refine W_regionI ?_); simp only [List.append_eq, List.cons_append, List.nil_append])
    | (with_reducible refine O_splitG fun cA cB hcA hcB => ?_))
  refine RRequest_C h.toHP (hF.rf.kept kk6) hm ht hn hsz (fun v7 S7 p1 p2 k7 => ?_)
  rw [her] at p1 p2 ⊢
  rw [hbq] at p1
  have O7 := res_own p1 p2
  have l7 := k7.1
  have gx7 := k7.get (by omega) gx6
  have gy7 := k7.get (by omega) gy6
  have g17 := k7.get (by omega) g16
  have g27 := k7.get (by omega) g26
  have kk7 := kk6.trans k7
  repeat' (first
    | (with_reducible first | refine W_pushC fun K hK => ?_ | refine W_blockI ?_ | refine W_scopeI ?_ | refine W_labelI ?_ | refine W_skipI ?_ | refine W_retI ?_ | refine W_exitI ?_ | refine then_normalI ?_ | refine then_retI ?_ | refine then_exitI ?_ | refine inBlock_normalI ?_ | refine inBlock_retI ?_ | refine inBlock_exitI ?_ | refine inBlock_exitN (by decide) ?_)
    | ((with_reducible first | refine bodyQ_normal0 ?_ | refine bodyQ_normal1 ?_ | refine bodyQ_normal2 ?_ | refine bodyQ_normal3 ?_ | refine bodyQ_normal4 ?_ | refine bodyQ_ret0 ?_ | refine bodyQ_ret1 ?_ | refine bodyQ_ret2 ?_ | refine bodyQ_ret3 ?_ | refine bodyQ_ret4 ?_); (try simp only [EVB, Nat.reduceEqDiff, reduceIte]))
    | (with_reducible refine Cont.use (by assumption) ?_)
    | (with_reducible first | refine hcA ?_ | refine hcB ?_)
    | ((with_reducible show W _ _ (.region _ _ true) _ _ _); first | (refine W_soft (fl := [true, true, true, true, false, false]) (ps := [(2, 5), (3, 5), (6, 5), (2, 6), (3, 6), (5, 6)]) (by decide +kernel) (by decide +kernel) (by decide +kernel) ?_) | (refine W_drawn (fl := [true, true, true, true, true, false, true, false, true, false]) (by decide +kernel) ?_))
    | (refine SepK_intro (by simp only [SepL, EVB, Nat.reduceEqDiff, reduceIte, gx7, gy7, g17, g27]; simp [blkV]; try omega) ?_)
    | ((with_reducible first | refine W_condG fun cA cB hcA hcB => ?_ | refine W_regionI ?_ | show O _ _ _ _ _ _ _ _ | show OK _ _ _ _ _ _ _ _ _ | show OKF _ _ _ _ _ _ _ _ _ _ | show OKT _ _ _ _ _ _ _ _ _ _ _ _ | show _ ∧ _ | show CG _ _ _ | show CB _ _ _); simp (disch := first | ((with_reducible show isStop _ = false); rfl) | ((with_reducible show isP _ = true); rfl) | ((with_reducible show (isStop _ || isP _) = false); rfl) | assumption | (simp only [GSB, Nat.reduceEqDiff, reduceIte]; done) | omega | (with_reducible decide) | (simp only [DSB, Go.Proofs.YtdmbgbennlnpcaaDoorAbs.oneC, Go.Proofs.YtdmbgbennlnpcaaDoorAbs.St.next_withLow, Nat.reduceAdd, Nat.reduceLeDiff] <;> omega) | fail) only [↓DN, ↓reduceIte, UP, CGB, Int.reduceEq, Int.reduceLT, Int.reduceLE, Nat.reduceEqDiff, Nat.reduceAdd, Nat.reduceMul, Nat.reduceSub, Int.reduceToNat, Nat.reduceLeDiff, PF, isStop, isP, goInt, beq_self_eq_true, decide_true, decide_false, Int.toNat_natCast, Int.natCast_zero, nn_eq, nn_ne, errW0, errW1, gx7, gy7, g17, g27])
    | ((with_reducible refine CB_intro (fun ht => hcA ?_) (fun ht => hcB ?_)) <;> (first | (simp only [Bool.true_eq_false, Bool.false_eq_true] at ht; done) | ((try simp only [Bool.not_eq_true', Bool.not_eq_false'] at ht); (try simp only [ht]); (try simp only [HTN] at ht); (try (exfalso; omega)))))
    | ((with_reducible refine W_regionI ?_); simp only [List.append_eq, List.cons_append, List.nil_append])
    | (with_reducible refine O_splitG fun cA cB hcA hcB => ?_))
  refine Response_C h.toHP (hPG.kept kk7) (hY.kept (k6.trans k7)) hr hn' hsz' (fun v8 S8 p1 p2 k8 => ?_)
  rw [hes] at p1 p2 ⊢
  rw [hbp] at p1
  have O8 := res_own p1 p2
  have l8 := k8.1
  have gx8 := k8.get (by omega) gx7
  have gy8 := k8.get (by omega) gy7
  have g18 := k8.get (by omega) g17
  have g28 := k8.get (by omega) g27
  have kk8 := kk7.trans k8
  repeat' (first
    | (with_reducible first | refine W_pushC fun K hK => ?_ | refine W_blockI ?_ | refine W_scopeI ?_ | refine W_labelI ?_ | refine W_skipI ?_ | refine W_retI ?_ | refine W_exitI ?_ | refine then_normalI ?_ | refine then_retI ?_ | refine then_exitI ?_ | refine inBlock_normalI ?_ | refine inBlock_retI ?_ | refine inBlock_exitI ?_ | refine inBlock_exitN (by decide) ?_)
    | ((with_reducible first | refine bodyQ_normal0 ?_ | refine bodyQ_normal1 ?_ | refine bodyQ_normal2 ?_ | refine bodyQ_normal3 ?_ | refine bodyQ_normal4 ?_ | refine bodyQ_ret0 ?_ | refine bodyQ_ret1 ?_ | refine bodyQ_ret2 ?_ | refine bodyQ_ret3 ?_ | refine bodyQ_ret4 ?_); (try simp only [EVB, Nat.reduceEqDiff, reduceIte]))
    | (with_reducible refine Cont.use (by assumption) ?_)
    | (with_reducible first | refine hcA ?_ | refine hcB ?_)
    | ((with_reducible show W _ _ (.region _ _ true) _ _ _); first | (refine W_soft (fl := [true, true, true, true, false, false]) (ps := [(2, 5), (3, 5), (6, 5), (2, 6), (3, 6), (5, 6)]) (by decide +kernel) (by decide +kernel) (by decide +kernel) ?_) | (refine W_drawn (fl := [true, true, true, true, true, false, true, false, true, false]) (by decide +kernel) ?_))
    | (refine SepK_intro (by simp only [SepL, EVB, Nat.reduceEqDiff, reduceIte, gx8, gy8, g18, g28]; simp [blkV]; try omega) ?_)
    | ((with_reducible first | refine W_condG fun cA cB hcA hcB => ?_ | refine W_regionI ?_ | show O _ _ _ _ _ _ _ _ | show OK _ _ _ _ _ _ _ _ _ | show OKF _ _ _ _ _ _ _ _ _ _ | show OKT _ _ _ _ _ _ _ _ _ _ _ _ | show _ ∧ _ | show CG _ _ _ | show CB _ _ _); simp (disch := first | ((with_reducible show isStop _ = false); rfl) | ((with_reducible show isP _ = true); rfl) | ((with_reducible show (isStop _ || isP _) = false); rfl) | assumption | (simp only [GSB, Nat.reduceEqDiff, reduceIte]; done) | omega | (with_reducible decide) | (simp only [DSB, Go.Proofs.YtdmbgbennlnpcaaDoorAbs.oneC, Go.Proofs.YtdmbgbennlnpcaaDoorAbs.St.next_withLow, Nat.reduceAdd, Nat.reduceLeDiff] <;> omega) | fail) only [↓DN, ↓reduceIte, UP, CGB, Int.reduceEq, Int.reduceLT, Int.reduceLE, Nat.reduceEqDiff, Nat.reduceAdd, Nat.reduceMul, Nat.reduceSub, Int.reduceToNat, Nat.reduceLeDiff, PF, isStop, isP, goInt, beq_self_eq_true, decide_true, decide_false, Int.toNat_natCast, Int.natCast_zero, nn_eq, nn_ne, errW0, errW1, gx8, gy8, g18, g28])
    | ((with_reducible refine CB_intro (fun ht => hcA ?_) (fun ht => hcB ?_)) <;> (first | (simp only [Bool.true_eq_false, Bool.false_eq_true] at ht; done) | ((try simp only [Bool.not_eq_true', Bool.not_eq_false'] at ht); (try simp only [ht]); (try simp only [HTN] at ht); (try (exfalso; omega)))))
    | ((with_reducible refine W_regionI ?_); simp only [List.append_eq, List.cons_append, List.nil_append])
    | (with_reducible refine O_splitG fun cA cB hcA hcB => ?_))
  refine RResponse_C h.toHP (hF'.rf.kept kk8) hr hn' hsz' (fun v9 S9 p1 p2 k9 => ?_)
  rw [hes] at p1 p2 ⊢
  rw [hbp] at p1
  have O9 := res_own p1 p2
  have gx9 := k9.get (by omega) gx8
  have gy9 := k9.get (by omega) gy8
  have g19 := k9.get (by omega) g18
  have g29 := k9.get (by omega) g28
  have kk9 := kk8.trans k9
  have w6 := conv_any (O6.kept (k7.trans (k8.trans k9)) (.inl rfl))
  have w7 := conv_any (O7.kept (k8.trans k9) (.inl rfl))
  have w8 := conv_any (O8.kept k9 (.inl rfl))
  have w9 := conv_any O9
  have b1 := beq_self_eq_true (⟨(resB er bq).toArray⟩ : ByteArray).toList
  have b2 := beq_self_eq_true (⟨(resB es bp).toArray⟩ : ByteArray).toList
  have d1 : decide (numF er = numF er) = true := decide_eq_true rfl
  have d2 : decide (numF es = numF es) = true := decide_eq_true rfl
  have dl : decide (l = l) = true := decide_eq_true rfl
  have dl' : decide (l' = l') = true := decide_eq_true rfl
  have hP9 := hPG.kept kk9
  have k59 := k6.trans (k7.trans (k8.trans k9))
  repeat' (first
    | (with_reducible first | refine W_pushC fun K hK => ?_ | refine W_blockI ?_ | refine W_scopeI ?_ | refine W_labelI ?_ | refine W_skipI ?_ | refine W_retI ?_ | refine W_exitI ?_ | refine then_normalI ?_ | refine then_retI ?_ | refine then_exitI ?_ | refine inBlock_normalI ?_ | refine inBlock_retI ?_ | refine inBlock_exitI ?_ | refine inBlock_exitN (by decide) ?_)
    | ((with_reducible first | refine bodyQ_normal0 ?_ | refine bodyQ_normal1 ?_ | refine bodyQ_normal2 ?_ | refine bodyQ_normal3 ?_ | refine bodyQ_normal4 ?_ | refine bodyQ_ret0 ?_ | refine bodyQ_ret1 ?_ | refine bodyQ_ret2 ?_ | refine bodyQ_ret3 ?_ | refine bodyQ_ret4 ?_); (try simp only [EVB, Nat.reduceEqDiff, reduceIte]))
    | ((with_reducible show C _ _ _ _ _ _); first | (refine num_C h.toHP ?_) | (refine fields_C h.toHP (hX.kept k59) (hF.rf.kept kk9) hn hn ?_) | (refine fields_C h.toHP (hY.kept k59) (hF'.rf.kept kk9) hn' hn' ?_) | (refine h.works _ _ hP9 ?_))
    | (with_reducible refine Cont.use (by assumption) ?_)
    | (with_reducible first | refine hcA ?_ | refine hcB ?_)
    | ((with_reducible show W _ _ (.region _ _ true) _ _ _); first | (refine W_soft (fl := [true, true, true, true, false, false]) (ps := [(2, 5), (3, 5), (6, 5), (2, 6), (3, 6), (5, 6)]) (by decide +kernel) (by decide +kernel) (by decide +kernel) ?_) | (refine W_drawn (fl := [true, true, true, true, true, false, true, false, true, false]) (by decide +kernel) ?_))
    | (refine SepK_intro (by simp only [SepL, EVB, Nat.reduceEqDiff, reduceIte, gx9, gy9, g19, g29, w6, w7, w8, w9, b1, b2, d1, d2, dl, dl']; simp [blkV]; try omega) ?_)
    | ((with_reducible first | refine W_condG fun cA cB hcA hcB => ?_ | refine W_regionI ?_ | show O _ _ _ _ _ _ _ _ | show OK _ _ _ _ _ _ _ _ _ | show OKF _ _ _ _ _ _ _ _ _ _ | show OKT _ _ _ _ _ _ _ _ _ _ _ _ | show _ ∧ _ | show CG _ _ _ | show CB _ _ _); simp (disch := first | ((with_reducible show isStop _ = false); rfl) | ((with_reducible show isP _ = true); rfl) | ((with_reducible show (isStop _ || isP _) = false); rfl) | assumption | (simp only [GSB, Nat.reduceEqDiff, reduceIte]; done) | omega | (with_reducible decide) | (simp only [DSB, Go.Proofs.YtdmbgbennlnpcaaDoorAbs.oneC, Go.Proofs.YtdmbgbennlnpcaaDoorAbs.St.next_withLow, Nat.reduceAdd, Nat.reduceLeDiff] <;> omega) | fail) only [↓DN, ↓reduceIte, UP, CGB, Int.reduceEq, Int.reduceLT, Int.reduceLE, Nat.reduceEqDiff, Nat.reduceAdd, Nat.reduceMul, Nat.reduceSub, Int.reduceToNat, Nat.reduceLeDiff, PF, isStop, isP, goInt, beq_self_eq_true, decide_true, decide_false, Int.toNat_natCast, Int.natCast_zero, nn_eq, nn_ne, errW0, errW1, gx9, gy9, g19, g29, w6, w7, w8, w9, b1, b2, d1, d2, dl, dl'])
    | ((with_reducible refine CB_intro (fun ht => hcA ?_) (fun ht => hcB ?_)) <;> (first | (simp only [Bool.true_eq_false, Bool.false_eq_true] at ht; done) | ((try simp only [Bool.not_eq_true', Bool.not_eq_false'] at ht); (try simp only [ht]); (try simp only [HTN] at ht); (try (exfalso; omega)))))
    | ((with_reducible refine W_regionI ?_); simp only [List.append_eq, List.cons_append, List.nil_append])
    | (with_reducible refine O_splitG fun cA cB hcA hcB => ?_)
    | (exact hQ _))
end
end Go.Proofs.YtdmbgbennlnpcaaDoor.Q
