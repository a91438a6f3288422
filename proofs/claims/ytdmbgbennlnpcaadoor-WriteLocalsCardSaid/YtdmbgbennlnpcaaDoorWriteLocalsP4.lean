/- What the law WriteLocals needs, part 4: the runner over a plain memory, words, the functions that it reaches, each by its own contract; for the inputs that each theorem names. -/
import Derived.Test.YtdmbgbennlnpcaaDoorWriteLocalsP3
import Derived.Test.YtdmbgbennlnpcaaDoorWriteLocalsQ0
import Derived.Lib.LaidU8
import Derived.MakeChecks
import Derived.LaidHandle
import Derived.Test.YtdmbgbennlnpcaaDoorWriteLocalsP2
namespace Go.Proofs.YtdmbgbennlnpcaaDoor.Q
open Go Go.Proofs.YtdmbgbennlnpcaaDoorAbs Go.Proofs Go.RowKit Go.Proofs.YtdmbgbennlnpcaaDoorW.PrintWords
set_option linter.unusedVariables false
set_option linter.unusedSimpArgs false
abbrev PowIs (w : World) : Prop := Lib.TabIs Tryd.prog w "internal/strconv.uint64pow10" .u64 Lib.pow10Tab
theorem startP {w : World} (hT : PowIs w) (hG : 6 < w.heap.size) : Go.Proofs.YtdmbgbennlnpcaaDoorAbs.Start Tryd.prog (Ren.start 6) (St.start 6 glP whP) w := by
  have hg : Tryd.prog.globalNamed "internal/strconv.uint64pow10" = some 1 := by kernel_rfl
  have hb : ∃ ty fr, w.heap[1]? = some (.cells (Lib.pow10Tab.map (Value.int .u64)).toArray ty fr) := by
    unfold PowIs Lib.TabIs World.var? at hT
    rw [hg, Option.bind_some] at hT
    split at hT
    · rename_i cs a b e
      cases hT
      exact ⟨a, b, e⟩
    · cases hT
  have st0 : Go.Proofs.YtdmbgbennlnpcaaDoorAbs.Start Tryd.prog (Ren.start Tryd.prog.globals.size) (St.start Tryd.prog.globals.size glP whP) w := by
    refine start0w glP whP (by rw [nglob]; exact hG) (fun g cs hg hgl j v hj => ?_) (fun g cs hg hgl hw => ?_)
    · unfold glP at hgl
      split at hgl
      · cases hgl
        obtain ⟨ty, fr, e⟩ := hb
        refine ⟨v, ?_, .leaf _ ?_⟩
        · simp only [World.cell?, e]
          rw [List.getElem?_toArray]
          exact hj
        · have : (Lib.pow10Tab.map (Value.int .u64)).all leaf = true := by decide
          rw [List.all_eq_true] at this
          exact this v (List.mem_of_getElem? hj)
      · cases hgl
    · unfold glP at hgl
      split at hgl
      · cases hgl; exact hb
      · cases hgl
  rwa [nglob] at st0
def toF (l : List S50) : List Fld := l.map fun x => (x.f0, x.f1)
theorem toF_len (l : List S50) : (toF l).length = l.length := by simp [toF]
theorem fldv_in : ∀ (l : List S50) (j : Nat) (v : Value), (fldv (toF l))[j]? = some v → ∃ p, l[j / 2]? = some p ∧ [Value.string p.f0, Value.string p.f1][j % 2]? = some v
  | [], j, v, h => by simp [fldv, toF] at h
  | x :: l, 0, v, h => ⟨x, rfl, h⟩
  | x :: l, 1, v, h => ⟨x, rfl, h⟩
  | x :: l, j + 2, v, h => by
    have h' : (fldv (toF l))[j]? = some v := h
    obtain ⟨p, h1, h2⟩ := fldv_in l j v h'
    refine ⟨p, ?_, by rw [Nat.add_mod_right]; exact h2⟩
    rw [show (j + 2) / 2 = j / 2 + 1 by omega]
    simpa using h1
theorem row_fld {w : World} {ρ : Ren} {A : Option Addr} {l : List S50} (h : Kd.C k50 w A l.length l) (hp : 0 < l.length) : ∃ ad, A = some ad ∧ ∀ (j : Nat) (v : Value), (fldv (toF l))[j]? = some v → ∃ v', w.cell? (ad.add j) = some v' ∧ VR ρ v v' := by
  obtain ⟨ad, e, hcell⟩ := h.2.2 hp
  refine ⟨ad, e, fun j v hj => ?_⟩
  obtain ⟨p, h1, h2⟩ := fldv_in l j v hj
  obtain ⟨c, _, hK, hc⟩ := hcell (j / 2) p h1
  have ec := k50_open hK
  subst ec
  refine ⟨v, ?_, .leaf _ ?_⟩
  · have := hc (j % 2) v h2
    rwa [show j / 2 * k50.sz + j % 2 = j from Nat.div_add_mod' j 2] at this
  · rcases Nat.mod_two_eq_zero_or_one j with q | q <;> (rw [q] at h2; cases h2; rfl)
theorem fldv_nil (l : List S50) : l.length = 0 ↔ fldv (toF l) = [] := by
  cases l with
  | nil => simp [fldv, toF]
  | cons x l => simp [fldv, toF]
def FOk (l : List S50) : Prop := l.length ≤ 1048576 ∧ ∀ f ∈ toF l, f.1.size ≤ 1048576 ∧ f.2.size ≤ 1048576
theorem their_sf {S : St} {l : List S50} {n : Nat} (hn : n = S.next) : SF (S.theirs (fldv (toF l))) (.slice (some ⟨n, 0, some 0⟩) l.length (UNK + 2)) (toF l) :=
  .inl ⟨n, by rw [toF_len], by subst hn; simp [St.theirs], by subst hn; exact Nat.lt_succ_self _⟩
theorem their_kept (S : St) (cs : List Value) : Kept S (S.theirs cs) none := ⟨Nat.le_succ _, fun i hi _ => by simp only [St.theirs]; rw [if_neg (by omega)]⟩
theorem start_pg : PG (St.start 6 glP whP) := ⟨by decide, rfl⟩
theorem turnstilelaw10_WriteApart.calls (m t : ByteArray) (n : Int) (A0 : Option Addr) (c0 : Nat) (l0 : List S50) (m' t' : ByteArray) (n' : Int) (A1 : Option Addr) (c1 : Nat) (l1 : List S50) (w : World) (hr0 : Kd.C k50 w A0 l0.length l0) (hc0 : l0.length ≤ c0) (hr1 : Kd.C k50 w A1 l1.length l1) (hc1 : l1.length ≤ c1)
    (hT : PowIs w) (hG : 6 < w.heap.size) (hp : (m.size ≤ 1048576 ∧ t.size ≤ 1048576 ∧ FOk l0) ∧ (m'.size ≤ 1048576 ∧ t'.size ≤ 1048576 ∧ FOk l1)) :
    Calls Tryd.prog 4 #[.agg #[.string m, .string t, .int .i64 n, .slice A0 l0.length c0], .agg #[.string m', .string t', .int .i64 n', .slice A1 l1.length c1]] w fun e w' => e = .returned (.bool true) ∧ Below w.heap.size w w' := by
  have st0 := startP hT hG
  obtain ⟨ρ1, hle1, st1, hv1⟩ := st0.row 2 (fldv (toF l0)) A0 l0.length c0 hc0 (fldv_nil l0) (row_fld hr0)
  obtain ⟨ρ2, hle2, st2, hv2⟩ := st1.row 2 (fldv (toF l1)) A1 l1.length c1 hc1 (fldv_nil l1) (row_fld hr1)
  obtain ⟨⟨p1, p2, p3, p4⟩, p5, p6, p7, p8⟩ := hp
  have k1 := their_kept (St.start 6 glP whP) (fldv (toF l0))
  have k2 := their_kept ((St.start 6 glP whP).theirs (fldv (toF l0))) (fldv (toF l1))
  refine st2.law prims1_sim mixed rfl (xs := #[.agg #[.string m, .string t, .int .i64 n, .slice (some ⟨7, 0, some 0⟩) l0.length (UNK + 2)], .agg #[.string m', .string t', .int .i64 n', .slice (some ⟨8, 0, some 0⟩) l1.length (UNK + 2)]])
    (VRL.cons (VR.agg' (VRL.cons (VR.scalar rfl) (VRL.cons (VR.scalar rfl) (VRL.cons (VR.scalar rfl) (VRL.cons (hv1.mono hle2) (VRL.nil _)))))) (VRL.cons (VR.agg' (VRL.cons (VR.scalar rfl) (VRL.cons (VR.scalar rfl) (VRL.cons (VR.scalar rfl) (VRL.cons hv2 (VRL.nil _)))))) (VRL.nil _))) ?_
  refine apart_walk prims1_ok ((start_pg.kept k1).kept k2) (l := toF l0) (l' := toF l1) ((their_sf rfl).kept k2) p1 p2 (by rw [toF_len]; exact p3) p4 (their_sf rfl) p5 p6 (by rw [toF_len]; exact p7) p8 ?_
  intro S'; rfl
end Go.Proofs.YtdmbgbennlnpcaaDoor.Q
namespace Go.Proofs.YtdmbgbennlnpcaaDoor.Q
open Go Go.Proofs.YtdmbgbennlnpcaaDoorAbs Go.Proofs
set_option linter.unusedVariables false
set_option linter.unusedSimpArgs false
set_option maxRecDepth 100000
set_option maxHeartbeats 4000000
attribute [local irreducible] Go.Proofs.YtdmbgbennlnpcaaDoorAbs.O Go.Proofs.YtdmbgbennlnpcaaDoorAbs.W Go.Proofs.YtdmbgbennlnpcaaDoorAbs.C Go.Proofs.YtdmbgbennlnpcaaDoorAbs.OK Go.Proofs.YtdmbgbennlnpcaaDoorAbs.OKF Go.Proofs.YtdmbgbennlnpcaaDoorAbs.OKT Go.Proofs.YtdmbgbennlnpcaaDoorAbs.then_ Go.Proofs.YtdmbgbennlnpcaaDoorAbs.inBlock_ Go.Proofs.YtdmbgbennlnpcaaDoorAbs.bodyQ Go.Proofs.YtdmbgbennlnpcaaDoorAbs.Cont
section
variable {I : Prims} {S S0 : St} {Q : Value → St → Prop} {e : Env}
end
end Go.Proofs.YtdmbgbennlnpcaaDoor.Q
namespace Go.Proofs.YtdmbgbennlnpcaaDoor.Q
open Go Go.Proofs.YtdmbgbennlnpcaaDoorAbs Go.Proofs
set_option linter.unusedVariables false
set_option linter.unusedSimpArgs false
set_option maxRecDepth 100000
set_option maxHeartbeats 4000000
attribute [local irreducible] Go.Proofs.YtdmbgbennlnpcaaDoorAbs.O Go.Proofs.YtdmbgbennlnpcaaDoorAbs.W Go.Proofs.YtdmbgbennlnpcaaDoorAbs.C Go.Proofs.YtdmbgbennlnpcaaDoorAbs.OK Go.Proofs.YtdmbgbennlnpcaaDoorAbs.OKF Go.Proofs.YtdmbgbennlnpcaaDoorAbs.OKT Go.Proofs.YtdmbgbennlnpcaaDoorAbs.then_ Go.Proofs.YtdmbgbennlnpcaaDoorAbs.inBlock_ Go.Proofs.YtdmbgbennlnpcaaDoorAbs.bodyQ Go.Proofs.YtdmbgbennlnpcaaDoorAbs.Cont
section
variable {P : Program} {I : Prims} {ops : Array Oper} {r : List Oper} {Q : Env → St → Prop} {e : Env} {S : St} {dst : Option Tmp} {ty : TypeId} {pos : String} {after : Array Edge}
theorem append_lit {t tx elem size bytes n m b o L c : Nat} {z x : Value} {xs ys : List Value} (hu : P.underlying t = some (.slice elem)) (hs : asize P elem = some size) (hb : abytes P elem = some bytes) (hz : azero P elem = some z)
    (hc : 0 < size ∧ 0 < bytes ∧ z.cells.size = size) (hn : 0 < n) (hcu : c < UNK) (hcn : c < n + m) (hr : aread S ⟨b, o, some L⟩ (n * size) = some xs) (hxl : xs.length = n * size) (hx1 : xs.all oneC = true) (hx : asrc P S tx size x = some (m, ys)) (hm : 0 < m) (hy : ys.length = m * size ∧ ys.all oneC = true) (hl : (3 * (n + m) + 2048) * bytes ≤ 281474976710656) :
    ∃ v' S', aappend P S t tx (.slice (some ⟨b, o, some L⟩) n c) x = some (v', S') ∧ Own elem size S' v' (n + m) (xs ++ ys) ∧ KpL S S' ∧ (∀ i, blkOf v' = some i → S.next ≤ i) := by
  have h1 : ¬ c = UNK + size := by omega
  have h2 : ¬ UNK ≤ c := by omega
  refine ⟨.slice (some ⟨S.next, 0, some (xs.length + ys.length)⟩) (n + m) (UNK + size), S.push ⟨xs ++ ys, elem, true, 0⟩, ?_, ⟨?_, ?_, .inr ⟨S.next, 0, ?_, S.get_push_self _, Nat.zero_le _, by simp, by omega⟩⟩, KpL.push _ _, fun i hi => by cases hi; exact Nat.le_refl _⟩
  · simp only [aappend, hu, hs, hb, hz, hc, and_self, if_true, hx, if_neg (show ¬ m = 0 by omega), if_neg h1, if_neg h2, if_neg (show ¬ n + m ≤ c by omega), if_neg (show ¬ n = 0 by omega), hr]
    rw [if_pos ⟨hl, hcn, hx1⟩]
  · rw [List.length_append, hxl, hy.1, Nat.add_mul]
  · rw [List.all_append, hx1, hy.2]; rfl
  · rw [List.length_append]
theorem O_litF {s x : Operand} {t tx elem size bytes n m b o L c : Nat} {z : Value} {xs ys : List Value} (hu : P.underlying t = some (.slice elem)) (hs : asize P elem = some size) (hb : abytes P elem = some bytes) (hz : azero P elem = some z)
    (hc : 0 < size ∧ 0 < bytes ∧ z.cells.size = size) (hv : e.ev s = .slice (some ⟨b, o, some L⟩) n c) (hn : 0 < n) (hcu : c < UNK) (hcn : c < n + m) (hr : aread S ⟨b, o, some L⟩ (n * size) = some xs) (hxl : xs.length = n * size) (hx1 : xs.all oneC = true) (hx : asrc P S tx size (e.ev x) = some (m, ys)) (hm : 0 < m) (hy : ys.length = m * size ∧ ys.all oneC = true) (hl : (3 * (n + m) + 2048) * bytes ≤ 281474976710656)
    (hk : ∀ v' S', Own elem size S' v' (n + m) (xs ++ ys) → KpL S S' → (∀ i, blkOf v' = some i → S.next ≤ i) → O P I ops r [] Q (e.putO dst v') S') :
    O P I ops (⟨dst, .call ⟨.builtin .append, #[s, x], #[t, tx]⟩, ty, pos, after, none⟩ :: r) [] Q e S := by
  obtain ⟨v', S', h1, h2, h3, h4⟩ := append_lit hu hs hb hz hc hn hcu hcn hr hxl hx1 hx hm hy hl
  rw [O_step rfl]
  have : aop P e.ev ⟨dst, .call ⟨.builtin .append, #[s, x], #[t, tx]⟩, ty, pos, after, none⟩ S = some (v', S') := by
    rw [aop_builtin]
    show alt (aappend P S t tx (e.ev s) (e.ev x)) _ = _
    rw [hv, h1, alt_some]
  rw [this]
  exact ⟨rfl, hk v' S' h2 h3 h4⟩
end
theorem nDigits_le : ∀ (j n : Nat), 0 < j → n < 10 ^ j → Go.Lib.nDigits n ≤ j
  | 0, n, h, _ => absurd h (by decide)
  | j + 1, n, _, h => by
    by_cases h' : n < 10
    · rw [Go.Lib.nDigits_small h']; omega
    · rw [Go.Lib.nDigits_big h']
      have : 0 < j := by
        rcases Nat.eq_zero_or_pos j with q | q
        · subst q; simp at h; omega
        · exact q
      have := nDigits_le j (n / 10) this (by rw [Nat.pow_succ] at h; omega)
      omega
theorem dec_big {k : Nat} (h : ¬ k < 10) : Go.Lib.decDigits k = Go.Lib.decDigits (k / 10) ++ [UInt8.ofNat (48 + k % 10)] := by rw [Go.Lib.decDigits, dif_neg h]
theorem dec_small {k : Nat} (h : k < 10) : Go.Lib.decDigits k = [UInt8.ofNat (48 + k % 10)] := by rw [Go.Lib.decDigits, dif_pos h, Nat.mod_eq_of_lt h]
section
variable {I : Prims} {S S0 : St} {c : Int} {Q : Value → St → Prop} {e : Env}
theorem told_C (h : HP I) {n : Nat} (hn : n ≤ 9223372036854775807) (hQ : Q (.string ⟨(Go.Lib.decDigits n).toArray⟩) S) : C Tryd.prog I 79 #[.int .u64 n, .int .u64 10] S Q := by
  refine C_body (rs := [.tmp 4]) (h.no 79 (by decide)) Tryd.func79 rfl rfl ok79 ?_
  obtain ⟨sz24, u9, sz3, u3, sz9, sz22, u22, u25, sz5, u5, sz38, u4, sz49, sz50, u58, u70, sz85, sz98, u103, sz25, u114, sz113, u88, sz27, sz108, u108, sz4, sz96, u96, u2, sz123, u123, sz130, u130, u139, sz103, u140, sz141, u142, u141, u21⟩ := UF
  have hz : (⟨#[48, 49, 50, 51, 52, 53, 54, 55, 56, 57, 97, 98, 99, 100, 101, 102]⟩ : ByteArray).size = 16 := rfl
  have dx : ∀ d : Nat, d < 10 → ∀ k k', ssX Tryd.prog 9 (.string ⟨#[48, 49, 50, 51, 52, 53, 54, 55, 56, 57, 97, 98, 99, 100, 101, 102]⟩) (some (.int k (d : Int))) (some (.int k' ((d + 1 : Nat) : Int))) none = some (.string ⟨[UInt8.ofNat (48 + d)].toArray⟩) := fun d hd k k' => by
    rw [ssX_lh _ _ _ _ _ _ u9 (by omega) (by omega) (by omega), Int.toNat_natCast, Int.toNat_natCast]
    have : ∀ d : Fin 10, (⟨#[48, 49, 50, 51, 52, 53, 54, 55, 56, 57, 97, 98, 99, 100, 101, 102]⟩ : ByteArray).extract d.val (d.val + 1) = ⟨[UInt8.ofNat (48 + d.val)].toArray⟩ := by decide +kernel
    rw [this ⟨d, hd⟩]
  have hlen : (Go.Lib.decDigits n).length ≤ 20 := by rw [Go.Lib.decDigits_length]; exact nDigits_le 20 n (by decide) (by omega)
  repeat' (first
    | (with_reducible first | refine W_pushC fun K hK => ?_ | refine W_blockI ?_ | refine W_scopeI ?_ | refine W_labelI ?_ | refine W_skipI ?_ | refine W_retI ?_ | refine W_exitI ?_ | refine then_normalI ?_ | refine then_retI ?_ | refine then_exitI ?_ | refine inBlock_normalI ?_ | refine inBlock_retI ?_ | refine inBlock_exitI ?_ | refine inBlock_exitN (by decide) ?_)
    | ((with_reducible first | refine bodyQ_normal0 ?_ | refine bodyQ_normal1 ?_ | refine bodyQ_normal2 ?_ | refine bodyQ_normal3 ?_ | refine bodyQ_normal4 ?_ | refine bodyQ_ret0 ?_ | refine bodyQ_ret1 ?_ | refine bodyQ_ret2 ?_ | refine bodyQ_ret3 ?_ | refine bodyQ_ret4 ?_); (try simp only [EVB, Nat.reduceEqDiff, reduceIte]))
    | (with_reducible refine Cont.use (by assumption) ?_)
    | (with_reducible first | refine hcA ?_ | refine hcB ?_)
    | ((with_reducible first | refine W_condG fun cA cB hcA hcB => ?_ | refine W_regionI ?_ | show O _ _ _ _ _ _ _ _ | show OK _ _ _ _ _ _ _ _ _ | show OKF _ _ _ _ _ _ _ _ _ _ | show OKT _ _ _ _ _ _ _ _ _ _ _ _ | show _ ∧ _ | show CG _ _ _ | show CB _ _ _); simp (disch := first | ((with_reducible show isStop _ = false); rfl) | ((with_reducible show isP _ = true); rfl) | ((with_reducible show (isStop _ || isP _) = false); rfl) | assumption | (simp only [GSB, Nat.reduceEqDiff, reduceIte]; done) | omega | (with_reducible decide) | (simp only [DSB, Go.Proofs.YtdmbgbennlnpcaaDoorAbs.oneC, Go.Proofs.YtdmbgbennlnpcaaDoorAbs.St.next_withLow, Nat.reduceAdd, Nat.reduceLeDiff] <;> omega) | fail) only [↓DN, ↓reduceIte, UP, CGB, Int.reduceEq, Int.reduceLT, Int.reduceLE, Nat.reduceEqDiff, Nat.reduceAdd, Nat.reduceMul, Nat.reduceSub, Int.reduceToNat, Nat.reduceLeDiff, PF, isStop, isP, goInt, beq_self_eq_true, decide_true, decide_false, Int.toNat_natCast, Int.natCast_zero])
    | ((with_reducible refine CB_intro (fun ht => hcA ?_) (fun ht => hcB ?_)) <;> (first | (simp only [Bool.true_eq_false, Bool.false_eq_true] at ht; done) | ((try simp only [Bool.not_eq_true', Bool.not_eq_false'] at ht); (try simp only [ht]); (try simp only [HTN] at ht); (try (exfalso; omega)))))
    | ((with_reducible refine W_regionI ?_); simp only [List.append_eq, List.cons_append, List.nil_append])
    | (with_reducible refine O_splitG fun cA cB hcA hcB => ?_))
  refine W_loop (fun z e S1 => ∃ (k : Nat) (s : ByteArray), e.get 0 = .int .u64 k ∧ e.get 1 = .int .u64 10 ∧ e.get 5 = .string s ∧ k ≤ n ∧ z = k ∧ Go.Lib.decDigits k ++ s.data.toList = Go.Lib.decDigits n ∧ S1 = S) n ⟨n, ⟨#[]⟩, by simp only [EVB, Nat.reduceEqDiff, reduceIte], by simp only [EVB, Nat.reduceEqDiff, reduceIte], by simp only [EVB, Nat.reduceEqDiff, reduceIte], Nat.le_refl _, rfl, by simp, rfl⟩ ?_
  rintro z e S1 ⟨k, s, e0, e1, e5, hk, hzk, hdig, rfl⟩
  have hs : s.size ≤ 20 := by
    have e2 : s.data.toList.length = s.size := Array.length_toList
    have := congrArg List.length hdig
    rw [List.length_append] at this
    omega
  have sd := dx (k % 10) (by omega)
  have q1 : (k : Int).tmod 10 = ((k % 10 : Nat) : Int) := by rw [Int.tmod_eq_emod_of_nonneg (by omega)]; omega
  have q2 : (k : Int).tdiv 10 = ((k / 10 : Nat) : Int) := by rw [Int.tdiv_eq_ediv_of_nonneg (by omega)]; omega
  have w1 : IntKind.u64.wrap ((k % 10 : Nat) : Int) = ((k % 10 : Nat) : Int) := Go.Proofs.YtdmbgbennlnpcaaDoorAbs.wpu64 (by omega) (by omega)
  have w2 : IntKind.u64.wrap (((k % 10 : Nat) : Int) + 1) = ((k % 10 + 1 : Nat) : Int) := by rw [Go.Proofs.YtdmbgbennlnpcaaDoorAbs.wpu64 (by omega) (by omega)]; omega
  have w3 : IntKind.u64.wrap ((k / 10 : Nat) : Int) = ((k / 10 : Nat) : Int) := Go.Proofs.YtdmbgbennlnpcaaDoorAbs.wpu64 (by omega) (by omega)
  obtain ⟨p1, ep1, sp1, a1⟩ := sadd_ex ⟨[UInt8.ofNat (48 + k % 10)].toArray⟩ s (1 + s.size) rfl (by omega)
  have ep1' : p1.data.toList = UInt8.ofNat (48 + k % 10) :: s.data.toList := by rw [ep1]; simp
  generalize hdg : (⟨[UInt8.ofNat (48 + k % 10)].toArray⟩ : ByteArray) = dg at sd a1
  by_cases hk10 : k < 10
  · have hd : decide (((k / 10 : Nat) : Int) = 0) = true := decide_eq_true (by omega)
    have hr : p1 = ⟨(Go.Lib.decDigits n).toArray⟩ := by
      rw [dec_small hk10] at hdig
      refine ba_ext ?_
      rw [ep1', ← hdig]; simp
    rw [← hr] at hQ
    repeat' (first
    | (with_reducible first | refine W_pushC fun K hK => ?_ | refine W_blockI ?_ | refine W_scopeI ?_ | refine W_labelI ?_ | refine W_skipI ?_ | refine W_retI ?_ | refine W_exitI ?_ | refine then_normalI ?_ | refine then_retI ?_ | refine then_exitI ?_ | refine inBlock_normalI ?_ | refine inBlock_retI ?_ | refine inBlock_exitI ?_ | refine inBlock_exitN (by decide) ?_)
    | ((with_reducible first | refine bodyQ_normal0 ?_ | refine bodyQ_normal1 ?_ | refine bodyQ_normal2 ?_ | refine bodyQ_normal3 ?_ | refine bodyQ_normal4 ?_ | refine bodyQ_ret0 ?_ | refine bodyQ_ret1 ?_ | refine bodyQ_ret2 ?_ | refine bodyQ_ret3 ?_ | refine bodyQ_ret4 ?_); (try simp only [EVB, Nat.reduceEqDiff, reduceIte]))
    | (with_reducible refine Cont.use (by assumption) ?_)
    | (with_reducible first | refine hcA ?_ | refine hcB ?_)
    | ((with_reducible show W _ _ (.region _ _ true) _ _ _); first | (refine W_drawn (fl := [true, true, true, true, true, true, true, true, true, true, true]) (by decide +kernel) ?_) | (refine W_drawn (fl := [true]) (by decide +kernel) ?_))
    | ((with_reducible first | refine W_condG fun cA cB hcA hcB => ?_ | refine W_regionI ?_ | show O _ _ _ _ _ _ _ _ | show OK _ _ _ _ _ _ _ _ _ | show OKF _ _ _ _ _ _ _ _ _ _ | show OKT _ _ _ _ _ _ _ _ _ _ _ _ | show _ ∧ _ | show CG _ _ _ | show CB _ _ _); simp (disch := first | ((with_reducible show isStop _ = false); rfl) | ((with_reducible show isP _ = true); rfl) | ((with_reducible show (isStop _ || isP _) = false); rfl) | assumption | (simp only [GSB, Nat.reduceEqDiff, reduceIte]; done) | omega | (with_reducible decide) | (simp only [DSB, Go.Proofs.YtdmbgbennlnpcaaDoorAbs.oneC, Go.Proofs.YtdmbgbennlnpcaaDoorAbs.St.next_withLow, Nat.reduceAdd, Nat.reduceLeDiff] <;> omega) | fail) only [↓DN, ↓reduceIte, UP, CGB, Int.reduceEq, Int.reduceLT, Int.reduceLE, Nat.reduceEqDiff, Nat.reduceAdd, Nat.reduceMul, Nat.reduceSub, Int.reduceToNat, Nat.reduceLeDiff, PF, isStop, isP, goInt, beq_self_eq_true, decide_true, decide_false, Int.toNat_natCast, Int.natCast_zero, e0, e1, e5, q1, q2, w1, w2, w3, sd, a1, hd])
    | ((with_reducible refine CB_intro (fun ht => hcA ?_) (fun ht => hcB ?_)) <;> (first | (simp only [Bool.true_eq_false, Bool.false_eq_true] at ht; done) | ((try simp only [Bool.not_eq_true', Bool.not_eq_false'] at ht); (try simp only [ht]); (try simp only [HTN] at ht); (try (exfalso; omega)))))
    | ((with_reducible refine W_regionI ?_); simp only [List.append_eq, List.cons_append, List.nil_append])
    | (with_reducible refine O_splitG fun cA cB hcA hcB => ?_)
    | (exact hQ))
  · have hd : decide (((k / 10 : Nat) : Int) = 0) = false := decide_eq_false (by omega)
    have hdig' : Go.Lib.decDigits (k / 10) ++ p1.data.toList = Go.Lib.decDigits n := by
      rw [dec_big hk10] at hdig
      rw [ep1', ← hdig]; simp
    repeat' (first
    | (with_reducible first | refine W_pushC fun K hK => ?_ | refine W_blockI ?_ | refine W_scopeI ?_ | refine W_labelI ?_ | refine W_skipI ?_ | refine W_retI ?_ | refine W_exitI ?_ | refine then_normalI ?_ | refine then_retI ?_ | refine then_exitI ?_ | refine inBlock_normalI ?_ | refine inBlock_retI ?_ | refine inBlock_exitI ?_ | refine inBlock_exitN (by decide) ?_)
    | ((with_reducible first | refine bodyQ_normal0 ?_ | refine bodyQ_normal1 ?_ | refine bodyQ_normal2 ?_ | refine bodyQ_normal3 ?_ | refine bodyQ_normal4 ?_ | refine bodyQ_ret0 ?_ | refine bodyQ_ret1 ?_ | refine bodyQ_ret2 ?_ | refine bodyQ_ret3 ?_ | refine bodyQ_ret4 ?_); (try simp only [EVB, Nat.reduceEqDiff, reduceIte]))
    | (with_reducible refine Cont.use (by assumption) ?_)
    | (with_reducible first | refine hcA ?_ | refine hcB ?_)
    | ((with_reducible show W _ _ (.region _ _ true) _ _ _); first | (refine W_drawn (fl := [true, true, true, true, true, true, true, true, true, true, true]) (by decide +kernel) ?_) | (refine W_drawn (fl := [true]) (by decide +kernel) ?_))
    | ((with_reducible first | refine W_condG fun cA cB hcA hcB => ?_ | refine W_regionI ?_ | show O _ _ _ _ _ _ _ _ | show OK _ _ _ _ _ _ _ _ _ | show OKF _ _ _ _ _ _ _ _ _ _ | show OKT _ _ _ _ _ _ _ _ _ _ _ _ | show _ ∧ _ | show CG _ _ _ | show CB _ _ _); simp (disch := first | ((with_reducible show isStop _ = false); rfl) | ((with_reducible show isP _ = true); rfl) | ((with_reducible show (isStop _ || isP _) = false); rfl) | assumption | (simp only [GSB, Nat.reduceEqDiff, reduceIte]; done) | omega | (with_reducible decide) | (simp only [DSB, Go.Proofs.YtdmbgbennlnpcaaDoorAbs.oneC, Go.Proofs.YtdmbgbennlnpcaaDoorAbs.St.next_withLow, Nat.reduceAdd, Nat.reduceLeDiff] <;> omega) | fail) only [↓DN, ↓reduceIte, UP, CGB, Int.reduceEq, Int.reduceLT, Int.reduceLE, Nat.reduceEqDiff, Nat.reduceAdd, Nat.reduceMul, Nat.reduceSub, Int.reduceToNat, Nat.reduceLeDiff, PF, isStop, isP, goInt, beq_self_eq_true, decide_true, decide_false, Int.toNat_natCast, Int.natCast_zero, e0, e1, e5, q1, q2, w1, w2, w3, sd, a1, hd])
    | ((with_reducible refine CB_intro (fun ht => hcA ?_) (fun ht => hcB ?_)) <;> (first | (simp only [Bool.true_eq_false, Bool.false_eq_true] at ht; done) | ((try simp only [Bool.not_eq_true', Bool.not_eq_false'] at ht); (try simp only [ht]); (try simp only [HTN] at ht); (try (exfalso; omega)))))
    | ((with_reducible refine W_regionI ?_); simp only [List.append_eq, List.cons_append, List.nil_append])
    | (with_reducible refine O_splitG fun cA cB hcA hcB => ?_)
    | ((refine ⟨k / 10, ?_, k / 10, p1, by simp only [EVB, Nat.reduceEqDiff, reduceIte], by simp only [EVB, Nat.reduceEqDiff, reduceIte, e1], by simp only [EVB, Nat.reduceEqDiff, reduceIte], by omega, rfl, hdig', rfl⟩; omega)))
theorem RText_C (h : HP I) {n : Nat} (hn : n ≤ 9223372036854775807) (hQ : Q (.string ⟨(Go.Lib.decDigits n).toArray⟩) S) : C Tryd.prog I 42 #[.int .i64 n] S Q := by
  refine C_body (rs := [.tmp 2]) (h.no 42 (by decide)) Tryd.func42 rfl rfl ok42 ?_
  obtain ⟨sz24, u9, sz3, u3, sz9, sz22, u22, u25, sz5, u5, sz38, u4, sz49, sz50, u58, u70, sz85, sz98, u103, sz25, u114, sz113, u88, sz27, sz108, u108, sz4, sz96, u96, u2, sz123, u123, sz130, u130, u139, sz103, u140, sz141, u142, u141, u21⟩ := UF
  have hd : decide ((n : Int) < 0) = false := decide_eq_false (by omega)
  have w1 : IntKind.u64.wrap (n : Int) = (n : Int) := Go.Proofs.YtdmbgbennlnpcaaDoorAbs.wpu64 (by omega) (by omega)
  repeat' (first
    | (with_reducible first | refine W_pushC fun K hK => ?_ | refine W_blockI ?_ | refine W_scopeI ?_ | refine W_labelI ?_ | refine W_skipI ?_ | refine W_retI ?_ | refine W_exitI ?_ | refine then_normalI ?_ | refine then_retI ?_ | refine then_exitI ?_ | refine inBlock_normalI ?_ | refine inBlock_retI ?_ | refine inBlock_exitI ?_ | refine inBlock_exitN (by decide) ?_)
    | ((with_reducible first | refine bodyQ_normal0 ?_ | refine bodyQ_normal1 ?_ | refine bodyQ_normal2 ?_ | refine bodyQ_normal3 ?_ | refine bodyQ_normal4 ?_ | refine bodyQ_ret0 ?_ | refine bodyQ_ret1 ?_ | refine bodyQ_ret2 ?_ | refine bodyQ_ret3 ?_ | refine bodyQ_ret4 ?_); (try simp only [EVB, Nat.reduceEqDiff, reduceIte]))
    | ((with_reducible show C _ _ _ _ _ _); first | (refine told_C h hn ?_))
    | (with_reducible refine Cont.use (by assumption) ?_)
    | (with_reducible first | refine hcA ?_ | refine hcB ?_)
    | ((with_reducible show W _ _ (.region _ _ true) _ _ _); first | (refine W_drawn (fl := [true, true, true, true, true, true, true, true, true, true, true]) (by decide +kernel) ?_) | (refine W_drawn (fl := [true]) (by decide +kernel) ?_))
    | ((with_reducible first | refine W_condG fun cA cB hcA hcB => ?_ | refine W_regionI ?_ | show O _ _ _ _ _ _ _ _ | show OK _ _ _ _ _ _ _ _ _ | show OKF _ _ _ _ _ _ _ _ _ _ | show OKT _ _ _ _ _ _ _ _ _ _ _ _ | show _ ∧ _ | show CG _ _ _ | show CB _ _ _); simp (disch := first | ((with_reducible show isStop _ = false); rfl) | ((with_reducible show isP _ = true); rfl) | ((with_reducible show (isStop _ || isP _) = false); rfl) | assumption | (simp only [GSB, Nat.reduceEqDiff, reduceIte]; done) | omega | (with_reducible decide) | (simp only [DSB, Go.Proofs.YtdmbgbennlnpcaaDoorAbs.oneC, Go.Proofs.YtdmbgbennlnpcaaDoorAbs.St.next_withLow, Nat.reduceAdd, Nat.reduceLeDiff] <;> omega) | fail) only [↓DN, ↓reduceIte, UP, CGB, Int.reduceEq, Int.reduceLT, Int.reduceLE, Nat.reduceEqDiff, Nat.reduceAdd, Nat.reduceMul, Nat.reduceSub, Int.reduceToNat, Nat.reduceLeDiff, PF, isStop, isP, goInt, beq_self_eq_true, decide_true, decide_false, Int.toNat_natCast, Int.natCast_zero, hd, w1])
    | ((with_reducible refine CB_intro (fun ht => hcA ?_) (fun ht => hcB ?_)) <;> (first | (simp only [Bool.true_eq_false, Bool.false_eq_true] at ht; done) | ((try simp only [Bool.not_eq_true', Bool.not_eq_false'] at ht); (try simp only [ht]); (try simp only [HTN] at ht); (try (exfalso; omega)))))
    | ((with_reducible refine W_regionI ?_); simp only [List.append_eq, List.cons_append, List.nil_append])
    | (with_reducible refine O_splitG fun cA cB hcA hcB => ?_)
    | (exact hQ))
theorem Reason_C (h : HP I) {n : Int} (hQ : Q (.string (reasonF n)) S) : C Tryd.prog I 11 #[.int .i64 n] S Q := by
  refine C_body (rs := [.tmp 2]) (h.no 11 (by decide)) Tryd.func11 rfl rfl ok11 ?_
  obtain ⟨sz24, u9, sz3, u3, sz9, sz22, u22, u25, sz5, u5, sz38, u4, sz49, sz50, u58, u70, sz85, sz98, u103, sz25, u114, sz113, u88, sz27, sz108, u108, sz4, sz96, u96, u2, sz123, u123, sz130, u130, u139, sz103, u140, sz141, u142, u141, u21⟩ := UF
  repeat' (first
    | (with_reducible first | refine W_pushC fun K hK => ?_ | refine W_blockI ?_ | refine W_scopeI ?_ | refine W_labelI ?_ | refine W_skipI ?_ | refine W_retI ?_ | refine W_exitI ?_ | refine then_normalI ?_ | refine then_retI ?_ | refine then_exitI ?_ | refine inBlock_normalI ?_ | refine inBlock_retI ?_ | refine inBlock_exitI ?_ | refine inBlock_exitN (by decide) ?_)
    | ((with_reducible first | refine bodyQ_normal0 ?_ | refine bodyQ_normal1 ?_ | refine bodyQ_normal2 ?_ | refine bodyQ_normal3 ?_ | refine bodyQ_normal4 ?_ | refine bodyQ_ret0 ?_ | refine bodyQ_ret1 ?_ | refine bodyQ_ret2 ?_ | refine bodyQ_ret3 ?_ | refine bodyQ_ret4 ?_); (try simp only [EVB, Nat.reduceEqDiff, reduceIte]))
    | (with_reducible refine Cont.use (by assumption) ?_)
    | (with_reducible first | refine hcA ?_ | refine hcB ?_)
    | ((with_reducible show W _ _ (.region _ _ true) _ _ _); first | (refine W_drawn (fl := [true, true, true, true, true, true, true, true, true, true, true]) (by decide +kernel) ?_) | (refine W_drawn (fl := [true]) (by decide +kernel) ?_))
    | ((with_reducible first | refine W_condG fun cA cB hcA hcB => ?_ | refine W_regionI ?_ | show O _ _ _ _ _ _ _ _ | show OK _ _ _ _ _ _ _ _ _ | show OKF _ _ _ _ _ _ _ _ _ _ | show OKT _ _ _ _ _ _ _ _ _ _ _ _ | show _ ∧ _ | show CG _ _ _ | show CB _ _ _); simp (disch := first | ((with_reducible show isStop _ = false); rfl) | ((with_reducible show isP _ = true); rfl) | ((with_reducible show (isStop _ || isP _) = false); rfl) | assumption | (simp only [GSB, Nat.reduceEqDiff, reduceIte]; done) | omega | (with_reducible decide) | (simp only [DSB, Go.Proofs.YtdmbgbennlnpcaaDoorAbs.oneC, Go.Proofs.YtdmbgbennlnpcaaDoorAbs.St.next_withLow, Nat.reduceAdd, Nat.reduceLeDiff] <;> omega) | fail) only [↓DN, ↓reduceIte, UP, CGB, Int.reduceEq, Int.reduceLT, Int.reduceLE, Nat.reduceEqDiff, Nat.reduceAdd, Nat.reduceMul, Nat.reduceSub, Int.reduceToNat, Nat.reduceLeDiff, PF, isStop, isP, goInt, beq_self_eq_true, decide_true, decide_false, Int.toNat_natCast, Int.natCast_zero])
    | ((with_reducible refine CB_intro (fun ht => hcA ?_) (fun ht => hcB ?_)) <;> (first | (simp only [Bool.true_eq_false, Bool.false_eq_true] at ht; done) | ((try simp only [Bool.not_eq_true', Bool.not_eq_false'] at ht); (try simp only [ht]); (try simp only [HTN] at ht); (try (exfalso; omega)))))
    | ((with_reducible refine W_regionI ?_); simp only [List.append_eq, List.cons_append, List.nil_append])
    | (with_reducible refine O_splitG fun cA cB hcA hcB => ?_)
    | ((refine qq hQ ?_ rfl; simp [reasonF, *])))
theorem RReason_L (h : HP I) {n : Int} (hQ : ∀ S', KpL S S' → Q (.string (reasonF n)) S') : C Tryd.prog I 12 #[.int .i64 n] S Q := by
  refine C_body (rs := [.tmp 2]) (h.no 12 (by decide)) Tryd.func12 rfl rfl ok12 ?_
  obtain ⟨sz24, u9, sz3, u3, sz9, sz22, u22, u25, sz5, u5, sz38, u4, sz49, sz50, u58, u70, sz85, sz98, u103, sz25, u114, sz113, u88, sz27, sz108, u108, sz4, sz96, u96, u2, sz123, u123, sz130, u130, u139, sz103, u140, sz141, u142, u141, u21⟩ := UF
  obtain ⟨S1, hS1⟩ : ∃ S1, (S.push ⟨codesL.map (Value.int .i64), 3, true, 0⟩).push ⟨wordsL.map Value.string, 9, true, 0⟩ = S1 := ⟨_, rfl⟩
  have k1 : KpL S S1 := by rw [← hS1]; exact (KpL.push _ _).psh _
  have g1 : S1.get S.next = some ⟨codesL.map (Value.int .i64), 3, true, 0⟩ := by
    rw [← hS1, St.get_push_ne _ _ (by simp), St.get_push_self]
  have g2 : S1.get (S.next + 1) = some ⟨wordsL.map Value.string, 9, true, 0⟩ := by
    rw [← hS1, show S.next + 1 = (S.push ⟨codesL.map (Value.int .i64), 3, true, 0⟩).next from rfl, St.get_push_self]
  simp only [codesL, wordsL, List.map_cons, List.map_nil] at hS1 g1 g2
  repeat' (first
    | (with_reducible first | refine W_pushC fun K hK => ?_ | refine W_blockI ?_ | refine W_scopeI ?_ | refine W_labelI ?_ | refine W_skipI ?_ | refine W_retI ?_ | refine W_exitI ?_ | refine then_normalI ?_ | refine then_retI ?_ | refine then_exitI ?_ | refine inBlock_normalI ?_ | refine inBlock_retI ?_ | refine inBlock_exitI ?_ | refine inBlock_exitN (by decide) ?_)
    | ((with_reducible first | refine bodyQ_normal0 ?_ | refine bodyQ_normal1 ?_ | refine bodyQ_normal2 ?_ | refine bodyQ_normal3 ?_ | refine bodyQ_normal4 ?_ | refine bodyQ_ret0 ?_ | refine bodyQ_ret1 ?_ | refine bodyQ_ret2 ?_ | refine bodyQ_ret3 ?_ | refine bodyQ_ret4 ?_); (try simp only [EVB, Nat.reduceEqDiff, reduceIte]))
    | (with_reducible refine Cont.use (by assumption) ?_)
    | (with_reducible first | refine hcA ?_ | refine hcB ?_)
    | ((with_reducible show W _ _ (.region _ _ true) _ _ _); first | (refine W_drawn (fl := [true, true, true, true, true, true, true, true, true, true, true]) (by decide +kernel) ?_) | (refine W_drawn (fl := [true]) (by decide +kernel) ?_))
    | ((with_reducible first | refine W_condG fun cA cB hcA hcB => ?_ | refine W_regionI ?_ | show O _ _ _ _ _ _ _ _ | show OK _ _ _ _ _ _ _ _ _ | show OKF _ _ _ _ _ _ _ _ _ _ | show OKT _ _ _ _ _ _ _ _ _ _ _ _ | show _ ∧ _ | show CG _ _ _ | show CB _ _ _); simp (disch := first | ((with_reducible show isStop _ = false); rfl) | ((with_reducible show isP _ = true); rfl) | ((with_reducible show (isStop _ || isP _) = false); rfl) | assumption | (simp only [GSB, Nat.reduceEqDiff, reduceIte]; done) | omega | (with_reducible decide) | (simp only [DSB, Go.Proofs.YtdmbgbennlnpcaaDoorAbs.oneC, Go.Proofs.YtdmbgbennlnpcaaDoorAbs.St.next_withLow, Nat.reduceAdd, Nat.reduceLeDiff] <;> omega) | fail) only [↓DN, ↓reduceIte, UP, CGB, Int.reduceEq, Int.reduceLT, Int.reduceLE, Nat.reduceEqDiff, Nat.reduceAdd, Nat.reduceMul, Nat.reduceSub, Int.reduceToNat, Nat.reduceLeDiff, PF, isStop, isP, goInt, beq_self_eq_true, decide_true, decide_false, Int.toNat_natCast, Int.natCast_zero, hS1])
    | ((with_reducible refine CB_intro (fun ht => hcA ?_) (fun ht => hcB ?_)) <;> (first | (simp only [Bool.true_eq_false, Bool.false_eq_true] at ht; done) | ((try simp only [Bool.not_eq_true', Bool.not_eq_false'] at ht); (try simp only [ht]); (try simp only [HTN] at ht); (try (exfalso; omega)))))
    | ((with_reducible refine W_regionI ?_); simp only [List.append_eq, List.cons_append, List.nil_append])
    | (with_reducible refine O_splitG fun cA cB hcA hcB => ?_))
  refine W_loop (fun z e S' => ∃ i : Nat, e.get 0 = .int .i64 n ∧ e.get 3 = .slice (some ⟨S.next, 0, some 12⟩) 12 12 ∧ e.get 4 = .slice (some ⟨S.next + 1, 0, some 12⟩) 12 12 ∧ e.get 5 = .int .i64 i ∧ i ≤ 12 ∧ z = 12 - i ∧ (∀ j, j < i → codesL.getD j 0 ≠ n) ∧ S' = S1) 12 ⟨0, by simp only [EVB, Nat.reduceEqDiff, reduceIte], by simp only [EVB, Nat.reduceEqDiff, reduceIte], by simp only [EVB, Nat.reduceEqDiff, reduceIte], by simp only [EVB, Nat.reduceEqDiff, reduceIte]; rfl, Nat.zero_le _, by simp, fun j hj => by omega, rfl⟩ ?_
  rintro z e S' ⟨i, e0, e3, e4, e5, hi, hz, hno, rfl⟩
  have wi : IntKind.i64.wrap ((i : Int) + 1) = ((i + 1 : Nat) : Int) := by rw [Go.Proofs.YtdmbgbennlnpcaaDoorAbs.wp64 (by omega) (by omega)]; omega
  by_cases hlt : i < 12
  · have hd : decide ((i : Int) < 12) = true := decide_eq_true (by omega)
    have c1 : Go.Proofs.YtdmbgbennlnpcaaDoorAbs.cellAt (S'.get S.next) i 12 = some (.int .i64 (codesL.getD i 0)) := by
      rw [g1, Go.Proofs.YtdmbgbennlnpcaaDoorAbs.cellAt_own (by omega) (by omega)]
      match i, hlt with
      | 0, _ => rfl
      | 1, _ => rfl
      | 2, _ => rfl
      | 3, _ => rfl
      | 4, _ => rfl
      | 5, _ => rfl
      | 6, _ => rfl
      | 7, _ => rfl
      | 8, _ => rfl
      | 9, _ => rfl
      | 10, _ => rfl
      | 11, _ => rfl
    have c2 : Go.Proofs.YtdmbgbennlnpcaaDoorAbs.cellAt (S'.get (S.next + 1)) i 12 = some (.string (wordsL.getD i ⟨#[]⟩)) := by
      rw [g2, Go.Proofs.YtdmbgbennlnpcaaDoorAbs.cellAt_own (by omega) (by omega)]
      match i, hlt with
      | 0, _ => rfl
      | 1, _ => rfl
      | 2, _ => rfl
      | 3, _ => rfl
      | 4, _ => rfl
      | 5, _ => rfl
      | 6, _ => rfl
      | 7, _ => rfl
      | 8, _ => rfl
      | 9, _ => rfl
      | 10, _ => rfl
      | 11, _ => rfl
    by_cases he : codesL.getD i 0 = n
    · have hde : decide (codesL.getD i 0 = n) = true := decide_eq_true he
      have hr := reason_at n i hlt he
      have hq := hQ _ k1
      rw [← hr] at hq
      repeat' (first
    | (with_reducible first | refine W_pushC fun K hK => ?_ | refine W_blockI ?_ | refine W_scopeI ?_ | refine W_labelI ?_ | refine W_skipI ?_ | refine W_retI ?_ | refine W_exitI ?_ | refine then_normalI ?_ | refine then_retI ?_ | refine then_exitI ?_ | refine inBlock_normalI ?_ | refine inBlock_retI ?_ | refine inBlock_exitI ?_ | refine inBlock_exitN (by decide) ?_)
    | ((with_reducible first | refine bodyQ_normal0 ?_ | refine bodyQ_normal1 ?_ | refine bodyQ_normal2 ?_ | refine bodyQ_normal3 ?_ | refine bodyQ_normal4 ?_ | refine bodyQ_ret0 ?_ | refine bodyQ_ret1 ?_ | refine bodyQ_ret2 ?_ | refine bodyQ_ret3 ?_ | refine bodyQ_ret4 ?_); (try simp only [EVB, Nat.reduceEqDiff, reduceIte]))
    | (with_reducible refine Cont.use (by assumption) ?_)
    | (with_reducible first | refine hcA ?_ | refine hcB ?_)
    | ((with_reducible show W _ _ (.region _ _ true) _ _ _); first | (refine W_drawn (fl := [true, true, true, true, true, true, true, true, true, true, true]) (by decide +kernel) ?_) | (refine W_drawn (fl := [true]) (by decide +kernel) ?_))
    | ((with_reducible first | refine W_condG fun cA cB hcA hcB => ?_ | refine W_regionI ?_ | show O _ _ _ _ _ _ _ _ | show OK _ _ _ _ _ _ _ _ _ | show OKF _ _ _ _ _ _ _ _ _ _ | show OKT _ _ _ _ _ _ _ _ _ _ _ _ | show _ ∧ _ | show CG _ _ _ | show CB _ _ _); simp (disch := first | ((with_reducible show isStop _ = false); rfl) | ((with_reducible show isP _ = true); rfl) | ((with_reducible show (isStop _ || isP _) = false); rfl) | assumption | (simp only [GSB, Nat.reduceEqDiff, reduceIte]; done) | omega | (with_reducible decide) | (simp only [DSB, Go.Proofs.YtdmbgbennlnpcaaDoorAbs.oneC, Go.Proofs.YtdmbgbennlnpcaaDoorAbs.St.next_withLow, Nat.reduceAdd, Nat.reduceLeDiff] <;> omega) | fail) only [↓DN, ↓reduceIte, UP, CGB, Int.reduceEq, Int.reduceLT, Int.reduceLE, Nat.reduceEqDiff, Nat.reduceAdd, Nat.reduceMul, Nat.reduceSub, Int.reduceToNat, Nat.reduceLeDiff, PF, isStop, isP, goInt, beq_self_eq_true, decide_true, decide_false, Int.toNat_natCast, Int.natCast_zero, hd, e0, e3, e4, e5, wi, c1, c2, hde])
    | ((with_reducible refine CB_intro (fun ht => hcA ?_) (fun ht => hcB ?_)) <;> (first | (simp only [Bool.true_eq_false, Bool.false_eq_true] at ht; done) | ((try simp only [Bool.not_eq_true', Bool.not_eq_false'] at ht); (try simp only [ht]); (try simp only [HTN] at ht); (try (exfalso; omega)))))
    | ((with_reducible refine W_regionI ?_); simp only [List.append_eq, List.cons_append, List.nil_append])
    | (with_reducible refine O_splitG fun cA cB hcA hcB => ?_)
    | (exact hq))
    · have hde : decide (codesL.getD i 0 = n) = false := decide_eq_false he
      have hnx : ∀ j, j < i + 1 → codesL.getD j 0 ≠ n := fun j hj => by
        rcases Nat.lt_succ_iff_lt_or_eq.1 hj with q | q
        · exact hno j q
        · rw [q]; exact he
      repeat' (first
    | (with_reducible first | refine W_pushC fun K hK => ?_ | refine W_blockI ?_ | refine W_scopeI ?_ | refine W_labelI ?_ | refine W_skipI ?_ | refine W_retI ?_ | refine W_exitI ?_ | refine then_normalI ?_ | refine then_retI ?_ | refine then_exitI ?_ | refine inBlock_normalI ?_ | refine inBlock_retI ?_ | refine inBlock_exitI ?_ | refine inBlock_exitN (by decide) ?_)
    | ((with_reducible first | refine bodyQ_normal0 ?_ | refine bodyQ_normal1 ?_ | refine bodyQ_normal2 ?_ | refine bodyQ_normal3 ?_ | refine bodyQ_normal4 ?_ | refine bodyQ_ret0 ?_ | refine bodyQ_ret1 ?_ | refine bodyQ_ret2 ?_ | refine bodyQ_ret3 ?_ | refine bodyQ_ret4 ?_); (try simp only [EVB, Nat.reduceEqDiff, reduceIte]))
    | (with_reducible refine Cont.use (by assumption) ?_)
    | (with_reducible first | refine hcA ?_ | refine hcB ?_)
    | ((with_reducible show W _ _ (.region _ _ true) _ _ _); first | (refine W_drawn (fl := [true, true, true, true, true, true, true, true, true, true, true]) (by decide +kernel) ?_) | (refine W_drawn (fl := [true]) (by decide +kernel) ?_))
    | ((with_reducible first | refine W_condG fun cA cB hcA hcB => ?_ | refine W_regionI ?_ | show O _ _ _ _ _ _ _ _ | show OK _ _ _ _ _ _ _ _ _ | show OKF _ _ _ _ _ _ _ _ _ _ | show OKT _ _ _ _ _ _ _ _ _ _ _ _ | show _ ∧ _ | show CG _ _ _ | show CB _ _ _); simp (disch := first | ((with_reducible show isStop _ = false); rfl) | ((with_reducible show isP _ = true); rfl) | ((with_reducible show (isStop _ || isP _) = false); rfl) | assumption | (simp only [GSB, Nat.reduceEqDiff, reduceIte]; done) | omega | (with_reducible decide) | (simp only [DSB, Go.Proofs.YtdmbgbennlnpcaaDoorAbs.oneC, Go.Proofs.YtdmbgbennlnpcaaDoorAbs.St.next_withLow, Nat.reduceAdd, Nat.reduceLeDiff] <;> omega) | fail) only [↓DN, ↓reduceIte, UP, CGB, Int.reduceEq, Int.reduceLT, Int.reduceLE, Nat.reduceEqDiff, Nat.reduceAdd, Nat.reduceMul, Nat.reduceSub, Int.reduceToNat, Nat.reduceLeDiff, PF, isStop, isP, goInt, beq_self_eq_true, decide_true, decide_false, Int.toNat_natCast, Int.natCast_zero, hd, e0, e3, e4, e5, wi, c1, c2, hde])
    | ((with_reducible refine CB_intro (fun ht => hcA ?_) (fun ht => hcB ?_)) <;> (first | (simp only [Bool.true_eq_false, Bool.false_eq_true] at ht; done) | ((try simp only [Bool.not_eq_true', Bool.not_eq_false'] at ht); (try simp only [ht]); (try simp only [HTN] at ht); (try (exfalso; omega)))))
    | ((with_reducible refine W_regionI ?_); simp only [List.append_eq, List.cons_append, List.nil_append])
    | (with_reducible refine O_splitG fun cA cB hcA hcB => ?_)
    | ((refine ⟨_, ?_, i + 1, by simp only [EVB, Nat.reduceEqDiff, reduceIte, e0], by simp only [EVB, Nat.reduceEqDiff, reduceIte, e3], by simp only [EVB, Nat.reduceEqDiff, reduceIte, e4], by simp only [EVB, Nat.reduceEqDiff, reduceIte], by omega, rfl, hnx, rfl⟩; omega)))
  · have hd : decide ((i : Int) < 12) = false := decide_eq_false (by omega)
    have hr := reason_no n (fun j hj => hno j (by omega))
    have hq := hQ _ k1
    rw [hr] at hq
    repeat' (first
    | (with_reducible first | refine W_pushC fun K hK => ?_ | refine W_blockI ?_ | refine W_scopeI ?_ | refine W_labelI ?_ | refine W_skipI ?_ | refine W_retI ?_ | refine W_exitI ?_ | refine then_normalI ?_ | refine then_retI ?_ | refine then_exitI ?_ | refine inBlock_normalI ?_ | refine inBlock_retI ?_ | refine inBlock_exitI ?_ | refine inBlock_exitN (by decide) ?_)
    | ((with_reducible first | refine bodyQ_normal0 ?_ | refine bodyQ_normal1 ?_ | refine bodyQ_normal2 ?_ | refine bodyQ_normal3 ?_ | refine bodyQ_normal4 ?_ | refine bodyQ_ret0 ?_ | refine bodyQ_ret1 ?_ | refine bodyQ_ret2 ?_ | refine bodyQ_ret3 ?_ | refine bodyQ_ret4 ?_); (try simp only [EVB, Nat.reduceEqDiff, reduceIte]))
    | (with_reducible refine Cont.use (by assumption) ?_)
    | (with_reducible first | refine hcA ?_ | refine hcB ?_)
    | ((with_reducible show W _ _ (.region _ _ true) _ _ _); first | (refine W_drawn (fl := [true, true, true, true, true, true, true, true, true, true, true]) (by decide +kernel) ?_) | (refine W_drawn (fl := [true]) (by decide +kernel) ?_))
    | ((with_reducible first | refine W_condG fun cA cB hcA hcB => ?_ | refine W_regionI ?_ | show O _ _ _ _ _ _ _ _ | show OK _ _ _ _ _ _ _ _ _ | show OKF _ _ _ _ _ _ _ _ _ _ | show OKT _ _ _ _ _ _ _ _ _ _ _ _ | show _ ∧ _ | show CG _ _ _ | show CB _ _ _); simp (disch := first | ((with_reducible show isStop _ = false); rfl) | ((with_reducible show isP _ = true); rfl) | ((with_reducible show (isStop _ || isP _) = false); rfl) | assumption | (simp only [GSB, Nat.reduceEqDiff, reduceIte]; done) | omega | (with_reducible decide) | (simp only [DSB, Go.Proofs.YtdmbgbennlnpcaaDoorAbs.oneC, Go.Proofs.YtdmbgbennlnpcaaDoorAbs.St.next_withLow, Nat.reduceAdd, Nat.reduceLeDiff] <;> omega) | fail) only [↓DN, ↓reduceIte, UP, CGB, Int.reduceEq, Int.reduceLT, Int.reduceLE, Nat.reduceEqDiff, Nat.reduceAdd, Nat.reduceMul, Nat.reduceSub, Int.reduceToNat, Nat.reduceLeDiff, PF, isStop, isP, goInt, beq_self_eq_true, decide_true, decide_false, Int.toNat_natCast, Int.natCast_zero, hd, e0, e3, e4, e5])
    | ((with_reducible refine CB_intro (fun ht => hcA ?_) (fun ht => hcB ?_)) <;> (first | (simp only [Bool.true_eq_false, Bool.false_eq_true] at ht; done) | ((try simp only [Bool.not_eq_true', Bool.not_eq_false'] at ht); (try simp only [ht]); (try simp only [HTN] at ht); (try (exfalso; omega)))))
    | ((with_reducible refine W_regionI ?_); simp only [List.append_eq, List.cons_append, List.nil_append])
    | (with_reducible refine O_splitG fun cA cB hcA hcB => ?_)
    | (exact hq))
end
end Go.Proofs.YtdmbgbennlnpcaaDoor.Q
namespace Go.Proofs.YtdmbgbennlnpcaaDoor.Q
open Go Go.Proofs.YtdmbgbennlnpcaaDoorAbs Go.Proofs
set_option linter.unusedVariables false
set_option linter.unusedSimpArgs false
set_option maxRecDepth 100000
set_option maxHeartbeats 4000000
attribute [local irreducible] Go.Proofs.YtdmbgbennlnpcaaDoorAbs.O Go.Proofs.YtdmbgbennlnpcaaDoorAbs.W Go.Proofs.YtdmbgbennlnpcaaDoorAbs.C Go.Proofs.YtdmbgbennlnpcaaDoorAbs.OK Go.Proofs.YtdmbgbennlnpcaaDoorAbs.OKF Go.Proofs.YtdmbgbennlnpcaaDoorAbs.OKT Go.Proofs.YtdmbgbennlnpcaaDoorAbs.then_ Go.Proofs.YtdmbgbennlnpcaaDoorAbs.inBlock_ Go.Proofs.YtdmbgbennlnpcaaDoorAbs.bodyQ Go.Proofs.YtdmbgbennlnpcaaDoorAbs.Cont
def okLoc (status m : Int) : Prop := reasonF status ≠ ⟨#[]⟩ ∧ status ≠ 200 ∧ (m = 0 ∨ m = 1)
def bodyL (status : Int) : List UInt8 := dg3 status ++ [32] ++ (reasonF status).data.toList ++ [10]
def locA (n : Nat) : List Fld := [(⟨#[67, 111, 110, 116, 101, 110, 116, 45, 84, 121, 112, 101]⟩, ⟨#[116, 101, 120, 116, 47, 112, 108, 97, 105, 110]⟩), (⟨#[67, 111, 110, 116, 101, 110, 116, 45, 76, 101, 110, 103, 116, 104]⟩, ⟨(Go.Lib.decDigits n).toArray⟩)]
def locC : List Fld := [(⟨#[67, 111, 110, 110, 101, 99, 116, 105, 111, 110]⟩, ⟨#[99, 108, 111, 115, 101]⟩)]
def locF (status : Int) (last : Bool) : List Fld := locA (bodyL status).length ++ if last = true then locC else []
theorem reason_ok {n : Int} (h : reasonF n ≠ ⟨#[]⟩) : 100 ≤ n ∧ n < 1000 ∧ (reasonF n).size ≤ 31 := by
  obtain ⟨i, hi, q⟩ : ∃ i, i < 12 ∧ codesL.getD i 0 = n := Decidable.byContradiction fun z => h (reason_no n fun i hi q => z ⟨i, hi, q⟩)
  subst q
  have : ∀ i : Fin 12, 100 ≤ codesL.getD i.val 0 ∧ codesL.getD i.val 0 < 1000 ∧ (reasonF (codesL.getD i.val 0)).size ≤ 31 := by decide +kernel
  exact this ⟨i, hi⟩
theorem RF.upd {S : St} {v : Value} {l : List Fld} {i : Nat} {B : Blk} (h : RF S v l) (hne : ∀ b, blkOf v = some b → b ≠ i) : RF (S.upd i B) v l := by
  obtain ⟨a, c, e, h1⟩ := h
  refine ⟨a, c, e, fun j hj => ?_⟩
  obtain ⟨b, L, e1, e2, e3⟩ := h1 j hj
  refine ⟨b, L, e1, ?_, e3⟩
  rw [St.get_upd_ne _ _ (hne b (by rw [e, e1]; rfl))]
  exact e2
theorem RF.lit {S : St} {b m el L k : Nat} {l : List Fld} (hb : S.get b = some ⟨fldv l, el, true, m⟩) (hm : m ≤ L) (hL : L = l.length * 2) (hn : b < S.next) : RF S (.slice (some ⟨b, 0, some L⟩) l.length k) l := by
  refine ⟨_, _, rfl, fun i hi => ⟨b, L, rfl, ?_, hn⟩⟩
  have hl := fldv_len l
  rw [hb, Go.Proofs.YtdmbgbennlnpcaaDoorAbs.rowAt_own hm (by omega) (by omega), fldv_at l i hi]
theorem kept_upd (S : St) (i : Nat) (B : Blk) : Kept S (S.upd i B) (some i) := ⟨Nat.le_refl _, fun j hj hne => S.get_upd_ne _ (fun e => hne (by rw [e]))⟩
section
variable {I : Prims} {S S0 : St} {c : Int} {Q : Value → St → Prop} {e : Env}
theorem Local_C (h : HP I) (hPG : PG S) {status m : Int} {last : Bool}
    (hQ1 : okLoc status m → ∀ S' vl vb, Kept S S' none → RF S' vl (locF status last) → Own 5 1 S' vb (bodyL status).length (u8v (bodyL status)) → Q (.tuple #[.agg #[.int .i64 status, .string (reasonF status), .int .i64 m, vl], vb, .nilIface]) S')
    (hQ0 : ¬ okLoc status m → ∀ S', Kept S S' none → Q (.tuple #[.agg #[.int .i64 0, .string ⟨#[]⟩, .int .i64 0, .slice none 0 0], .slice none 0 0, .iface 68 (.int .i64 20)]) S') :
    C Tryd.prog I 9 #[.int .i64 status, .int .i64 m, .bool last] S Q := by
  refine C_body (rs := [.cell 6 24, .tmp 7, .tmp 8]) (h.no 9 (by decide)) Tryd.func9 rfl rfl ok9 ?_
  obtain ⟨sz24, u9, sz3, u3, sz9, sz22, u22, u25, sz5, u5, sz38, u4, sz49, sz50, u58, u70, sz85, sz98, u103, sz25, u114, sz113, u88, sz27, sz108, u108, sz4, sz96, u96, u2, sz123, u123, sz130, u130, u139, sz103, u140, sz141, u142, u141, u21⟩ := UF
  obtain ⟨S1, hS1⟩ : ∃ S1, S.push ⟨[.int .i64 0, .string ⟨#[]⟩, .int .i64 0, .slice none 0 0], 24, true, 0⟩ = S1 := ⟨_, rfl⟩
  have n1 : S1.next = S.next + 1 := by rw [← hS1]; rfl
  have k1 : Kept S S1 none := by rw [← hS1]; exact Kept.push _ none
  have g1 : S1.get S.next = some ⟨[.int .i64 0, .string ⟨#[]⟩, .int .i64 0, .slice none 0 0], 24, true, 0⟩ := by rw [← hS1]; exact St.get_push_self _ _
  have hbad : ¬ okLoc status m → ∀ B : Blk, Q (.tuple #[.agg #[.int .i64 0, .string ⟨#[]⟩, .int .i64 0, .slice none 0 0], .slice none 0 0, .iface 68 (.int .i64 20)]) (S1.upd S.next B) := fun q B => hQ0 q _ (Kept.upd k1 (Nat.le_refl _) _)
  by_cases b1 : reasonF status = ⟨#[]⟩
  · have r0 : ((reasonF status).toList == (⟨#[]⟩ : ByteArray).toList) = true := by rw [b1]; exact beq_self_eq_true _
    have hq := hbad (fun q => q.1 b1)
    repeat' (first
    | (with_reducible first | refine W_pushC fun K hK => ?_ | refine W_blockI ?_ | refine W_scopeI ?_ | refine W_labelI ?_ | refine W_skipI ?_ | refine W_retI ?_ | refine W_exitI ?_ | refine then_normalI ?_ | refine then_retI ?_ | refine then_exitI ?_ | refine inBlock_normalI ?_ | refine inBlock_retI ?_ | refine inBlock_exitI ?_ | refine inBlock_exitN (by decide) ?_)
    | ((with_reducible first | refine bodyQ_normal0 ?_ | refine bodyQ_normal1 ?_ | refine bodyQ_normal2 ?_ | refine bodyQ_normal3 ?_ | refine bodyQ_normal4 ?_ | refine bodyQ_ret0 ?_ | refine bodyQ_ret1 ?_ | refine bodyQ_ret2 ?_ | refine bodyQ_ret3 ?_ | refine bodyQ_ret4 ?_); (try simp only [EVB, Nat.reduceEqDiff, reduceIte]))
    | (with_reducible first | refine bodyQ_retC1 fun cR hcR => ?_ | refine bodyQ_retC2 fun cR hcR => ?_ | refine bodyQ_retC3 fun cR hcR => ?_ | refine bodyQ_retC5 fun cR hcR => ?_)
    | ((with_reducible refine hcR _ ?_); (try simp only [EVB, Nat.reduceEqDiff, reduceIte]))
    | ((with_reducible show C _ _ _ _ _ _); first | (refine Reason_C h ?_) | (refine minor_C h ?_))
    | (with_reducible refine Cont.use (by assumption) ?_)
    | (with_reducible first | refine hcA ?_ | refine hcB ?_)
    | ((with_reducible first | refine W_condG fun cA cB hcA hcB => ?_ | refine W_regionI ?_ | show O _ _ _ _ _ _ _ _ | show OK _ _ _ _ _ _ _ _ _ | show OKF _ _ _ _ _ _ _ _ _ _ | show OKT _ _ _ _ _ _ _ _ _ _ _ _ | show _ ∧ _ | show CG _ _ _ | show CB _ _ _ | show RL _ _); simp (disch := first | ((with_reducible show isStop _ = false); rfl) | ((with_reducible show isP _ = true); rfl) | ((with_reducible show (isStop _ || isP _) = false); rfl) | assumption | (simp only [GSB, Nat.reduceEqDiff, reduceIte]; done) | omega | (with_reducible decide) | (simp only [DSB, Go.Proofs.YtdmbgbennlnpcaaDoorAbs.oneC, Go.Proofs.YtdmbgbennlnpcaaDoorAbs.St.next_withLow, Nat.reduceAdd, Nat.reduceLeDiff] <;> omega) | fail) only [↓DN, ↓reduceIte, UP, CGC, Int.reduceEq, Int.reduceLT, Int.reduceLE, Nat.reduceEqDiff, Nat.reduceAdd, Nat.reduceMul, Nat.reduceSub, Int.reduceToNat, Nat.reduceLeDiff, PF, isStop, isP, goInt, beq_self_eq_true, decide_true, decide_false, Int.toNat_natCast, Int.natCast_zero, hS1, g1, r0])
    | ((with_reducible refine CB_intro (fun ht => hcA ?_) (fun ht => hcB ?_)) <;> (first | (simp only [Bool.true_eq_false, Bool.false_eq_true] at ht; done) | ((try simp only [Bool.not_eq_true', Bool.not_eq_false'] at ht); (try simp only [ht]); (try simp only [HTN] at ht); (try (exfalso; omega)))))
    | ((with_reducible refine W_regionI ?_); simp only [List.append_eq, List.cons_append, List.nil_append])
    | (with_reducible refine O_splitG fun cA cB hcA hcB => ?_)
    | (exact hq _))
  have r0 := str_ne b1
  by_cases b2 : status = 200
  · have d2 : decide (status = 200) = true := decide_eq_true b2
    have hq := hbad (fun q => q.2.1 b2)
    repeat' (first
    | (with_reducible first | refine W_pushC fun K hK => ?_ | refine W_blockI ?_ | refine W_scopeI ?_ | refine W_labelI ?_ | refine W_skipI ?_ | refine W_retI ?_ | refine W_exitI ?_ | refine then_normalI ?_ | refine then_retI ?_ | refine then_exitI ?_ | refine inBlock_normalI ?_ | refine inBlock_retI ?_ | refine inBlock_exitI ?_ | refine inBlock_exitN (by decide) ?_)
    | ((with_reducible first | refine bodyQ_normal0 ?_ | refine bodyQ_normal1 ?_ | refine bodyQ_normal2 ?_ | refine bodyQ_normal3 ?_ | refine bodyQ_normal4 ?_ | refine bodyQ_ret0 ?_ | refine bodyQ_ret1 ?_ | refine bodyQ_ret2 ?_ | refine bodyQ_ret3 ?_ | refine bodyQ_ret4 ?_); (try simp only [EVB, Nat.reduceEqDiff, reduceIte]))
    | (with_reducible first | refine bodyQ_retC1 fun cR hcR => ?_ | refine bodyQ_retC2 fun cR hcR => ?_ | refine bodyQ_retC3 fun cR hcR => ?_ | refine bodyQ_retC5 fun cR hcR => ?_)
    | ((with_reducible refine hcR _ ?_); (try simp only [EVB, Nat.reduceEqDiff, reduceIte]))
    | ((with_reducible show C _ _ _ _ _ _); first | (refine Reason_C h ?_) | (refine minor_C h ?_))
    | (with_reducible refine Cont.use (by assumption) ?_)
    | (with_reducible first | refine hcA ?_ | refine hcB ?_)
    | ((with_reducible first | refine W_condG fun cA cB hcA hcB => ?_ | refine W_regionI ?_ | show O _ _ _ _ _ _ _ _ | show OK _ _ _ _ _ _ _ _ _ | show OKF _ _ _ _ _ _ _ _ _ _ | show OKT _ _ _ _ _ _ _ _ _ _ _ _ | show _ ∧ _ | show CG _ _ _ | show CB _ _ _ | show RL _ _); simp (disch := first | ((with_reducible show isStop _ = false); rfl) | ((with_reducible show isP _ = true); rfl) | ((with_reducible show (isStop _ || isP _) = false); rfl) | assumption | (simp only [GSB, Nat.reduceEqDiff, reduceIte]; done) | omega | (with_reducible decide) | (simp only [DSB, Go.Proofs.YtdmbgbennlnpcaaDoorAbs.oneC, Go.Proofs.YtdmbgbennlnpcaaDoorAbs.St.next_withLow, Nat.reduceAdd, Nat.reduceLeDiff] <;> omega) | fail) only [↓DN, ↓reduceIte, UP, CGC, Int.reduceEq, Int.reduceLT, Int.reduceLE, Nat.reduceEqDiff, Nat.reduceAdd, Nat.reduceMul, Nat.reduceSub, Int.reduceToNat, Nat.reduceLeDiff, PF, isStop, isP, goInt, beq_self_eq_true, decide_true, decide_false, Int.toNat_natCast, Int.natCast_zero, hS1, g1, r0, d2])
    | ((with_reducible refine CB_intro (fun ht => hcA ?_) (fun ht => hcB ?_)) <;> (first | (simp only [Bool.true_eq_false, Bool.false_eq_true] at ht; done) | ((try simp only [Bool.not_eq_true', Bool.not_eq_false'] at ht); (try simp only [ht]); (try simp only [HTN] at ht); (try (exfalso; omega)))))
    | ((with_reducible refine W_regionI ?_); simp only [List.append_eq, List.cons_append, List.nil_append])
    | (with_reducible refine O_splitG fun cA cB hcA hcB => ?_)
    | (exact hq _))
  have d2 : decide (status = 200) = false := decide_eq_false b2
  by_cases b3 : m = 0 ∨ m = 1
  case neg =>
    have d3 : (decide (m = 0) || decide (m = 1)) = false := by
      rw [Bool.or_eq_false_iff]
      exact ⟨decide_eq_false (fun q => b3 (.inl q)), decide_eq_false (fun q => b3 (.inr q))⟩
    have hq := hbad (fun q => b3 q.2.2)
    repeat' (first
    | (with_reducible first | refine W_pushC fun K hK => ?_ | refine W_blockI ?_ | refine W_scopeI ?_ | refine W_labelI ?_ | refine W_skipI ?_ | refine W_retI ?_ | refine W_exitI ?_ | refine then_normalI ?_ | refine then_retI ?_ | refine then_exitI ?_ | refine inBlock_normalI ?_ | refine inBlock_retI ?_ | refine inBlock_exitI ?_ | refine inBlock_exitN (by decide) ?_)
    | ((with_reducible first | refine bodyQ_normal0 ?_ | refine bodyQ_normal1 ?_ | refine bodyQ_normal2 ?_ | refine bodyQ_normal3 ?_ | refine bodyQ_normal4 ?_ | refine bodyQ_ret0 ?_ | refine bodyQ_ret1 ?_ | refine bodyQ_ret2 ?_ | refine bodyQ_ret3 ?_ | refine bodyQ_ret4 ?_); (try simp only [EVB, Nat.reduceEqDiff, reduceIte]))
    | (with_reducible first | refine bodyQ_retC1 fun cR hcR => ?_ | refine bodyQ_retC2 fun cR hcR => ?_ | refine bodyQ_retC3 fun cR hcR => ?_ | refine bodyQ_retC5 fun cR hcR => ?_)
    | ((with_reducible refine hcR _ ?_); (try simp only [EVB, Nat.reduceEqDiff, reduceIte]))
    | ((with_reducible show C _ _ _ _ _ _); first | (refine Reason_C h ?_) | (refine minor_C h ?_))
    | (with_reducible refine Cont.use (by assumption) ?_)
    | (with_reducible first | refine hcA ?_ | refine hcB ?_)
    | ((with_reducible first | refine W_condG fun cA cB hcA hcB => ?_ | refine W_regionI ?_ | show O _ _ _ _ _ _ _ _ | show OK _ _ _ _ _ _ _ _ _ | show OKF _ _ _ _ _ _ _ _ _ _ | show OKT _ _ _ _ _ _ _ _ _ _ _ _ | show _ ∧ _ | show CG _ _ _ | show CB _ _ _ | show RL _ _); simp (disch := first | ((with_reducible show isStop _ = false); rfl) | ((with_reducible show isP _ = true); rfl) | ((with_reducible show (isStop _ || isP _) = false); rfl) | assumption | (simp only [GSB, Nat.reduceEqDiff, reduceIte]; done) | omega | (with_reducible decide) | (simp only [DSB, Go.Proofs.YtdmbgbennlnpcaaDoorAbs.oneC, Go.Proofs.YtdmbgbennlnpcaaDoorAbs.St.next_withLow, Nat.reduceAdd, Nat.reduceLeDiff] <;> omega) | fail) only [↓DN, ↓reduceIte, UP, CGC, Int.reduceEq, Int.reduceLT, Int.reduceLE, Nat.reduceEqDiff, Nat.reduceAdd, Nat.reduceMul, Nat.reduceSub, Int.reduceToNat, Nat.reduceLeDiff, PF, isStop, isP, goInt, beq_self_eq_true, decide_true, decide_false, Int.toNat_natCast, Int.natCast_zero, hS1, g1, r0, d2, d3])
    | ((with_reducible refine CB_intro (fun ht => hcA ?_) (fun ht => hcB ?_)) <;> (first | (simp only [Bool.true_eq_false, Bool.false_eq_true] at ht; done) | ((try simp only [Bool.not_eq_true', Bool.not_eq_false'] at ht); (try simp only [ht]); (try simp only [HTN] at ht); (try (exfalso; omega)))))
    | ((with_reducible refine W_regionI ?_); simp only [List.append_eq, List.cons_append, List.nil_append])
    | (with_reducible refine O_splitG fun cA cB hcA hcB => ?_)
    | (exact hq _))
  have d3 : (decide (m = 0) || decide (m = 1)) = true := by rcases b3 with q | q <;> simp [q]
  have hok : okLoc status m := ⟨b1, b2, b3⟩
  obtain ⟨o1, o2, o3⟩ := reason_ok b1
  obtain ⟨t, rfl⟩ : ∃ t : Nat, status = (t : Int) := ⟨status.toNat, by omega⟩
  have hdt := dec3 (d := t) (by omega) (by omega)
  have hrl : (reasonF (t : Int)).data.toList.length = (reasonF (t : Int)).size := Array.length_toList
  have hbl : (bodyL (t : Int)).length = (reasonF (t : Int)).size + 5 := by
    have : (dg3 (t : Int)).length = 3 := rfl
    simp only [bodyL, List.length_append, List.length_cons, List.length_nil]; omega
  have hx3 : (⟨(Go.Lib.decDigits t).toArray⟩ : ByteArray).size = 3 := by rw [hdt]; rfl
  obtain ⟨bs, hbs⟩ : ∃ bs, bs = (⟨(bodyL (t : Int)).toArray⟩ : ByteArray) := ⟨_, rfl⟩
  have hbz : bs.size = (bodyL (t : Int)).length := by rw [hbs]; rfl
  have a1 : ∀ x y, binX Tryd.prog .add 9 x y (.string ((⟨(Go.Lib.decDigits t).toArray⟩ : ByteArray) ++ (⟨#[32]⟩ : ByteArray) ++ reasonF (t : Int))) (.string ⟨#[10]⟩) = some (.string bs) := fun x y => by
    have : ((⟨(Go.Lib.decDigits t).toArray⟩ : ByteArray) ++ (⟨#[32]⟩ : ByteArray) ++ reasonF (t : Int)).size = 3 + 1 + (reasonF (t : Int)).size := by rw [ByteArray.size_append, ByteArray.size_append, hx3]; rfl
    rw [binX_sadd _ _ _ _ _ (by have : (⟨#[10]⟩ : ByteArray).size = 1 := rfl; omega), hbs, hdt]
    refine congrArg (fun z => some (Value.string z)) (ByteArray.ext ?_)
    simp [bodyL]
  have cvb : ∀ S : St, aconvert Tryd.prog S 9 25 (.string bs) = some (.slice (some ⟨S.next, 0, some (bodyL (t : Int)).length⟩) (bodyL (t : Int)).length (UNK + 1), S.push ⟨u8v (bodyL (t : Int)), 5, true, 0⟩) := fun S => by rw [hbs]; exact cv_bytes S _
  have hP1 := hPG.kept k1
  obtain ⟨S3, hS3⟩ : ∃ S3, (S1.push ⟨[.string ⟨(Go.Lib.decDigits t).toArray⟩, .string (reasonF (t : Int))], 9, true, 0⟩).push ⟨fldv (locA bs.size), 50, true, 0⟩ = S3 := ⟨_, rfl⟩
  have n3 : S3.next = S.next + 3 := by rw [← hS3]; show S1.next + 1 + 1 = _; omega
  have k13 : Kept S1 S3 none := by rw [← hS3]; exact (Kept.push _ none).trans (Kept.push _ none)
  have k3 := k1.trans k13
  have g3 : S3.get S.next = some ⟨[.int .i64 0, .string ⟨#[]⟩, .int .i64 0, .slice none 0 0], 24, true, 0⟩ := k13.get (by omega) g1
  have gl : S3.get (S1.next + 1) = some ⟨fldv (locA bs.size), 50, true, 0⟩ := by
    rw [← hS3, show S1.next + 1 = (S1.push ⟨[.string ⟨(Go.Lib.decDigits t).toArray⟩, .string (reasonF (t : Int))], 9, true, 0⟩).next from rfl, St.get_push_self]
  have hfin := hQ1 hok
  have hFa : RF S3 (.slice (some ⟨S1.next + 1, 0, some 4⟩) 2 2) (locA bs.size) := RF.lit gl (Nat.zero_le _) rfl (by omega)
  have hfl : fldv (locA bs.size) = [.string ⟨#[67, 111, 110, 116, 101, 110, 116, 45, 84, 121, 112, 101]⟩, .string ⟨#[116, 101, 120, 116, 47, 112, 108, 97, 105, 110]⟩, .string ⟨#[67, 111, 110, 116, 101, 110, 116, 45, 76, 101, 110, 103, 116, 104]⟩, .string ⟨(Go.Lib.decDigits bs.size).toArray⟩] := rfl
  rw [hfl] at hS3
  have fin : ∀ (S4 : St) (vl : Value), Kept S3 S4 none → RF S4 vl (locF (t : Int) last) → (∀ b, blkOf vl = some b → S1.next ≤ b) → ∀ B, Q (.tuple #[.agg #[.int .i64 (t : Int), .string (reasonF (t : Int)), .int .i64 m, vl], .slice (some ⟨S4.next, 0, some (bodyL (t : Int)).length⟩) (bodyL (t : Int)).length (UNK + 1), .nilIface]) ((S4.push ⟨u8v (bodyL (t : Int)), 5, true, 0⟩).upd S.next B) := fun S4 vl k4 hF hb B => by
    have l4 := k4.1
    refine hfin _ _ _ (Kept.upd (k3.trans (k4.psh _)) (Nat.le_refl _) _) (RF.upd (hF.kept (Kept.push _ none)) fun b hb' => by have := hb b hb'; omega) ?_
    refine (own_push1 S4 (bodyL (t : Int)) (by omega)).kept (kept_upd _ _ _) (.inr fun q => ?_)
    simp only [blkOf, Option.some.injEq] at q
    omega
  cases last
  · have hF0 : locF (t : Int) false = locA bs.size := by rw [hbz]; exact List.append_nil _
    have hbN : ∀ b, blkOf (Value.slice (some ⟨S1.next + 1, 0, some 4⟩) 2 2) = some b → S1.next ≤ b := fun b hb => by
      have hb' : S1.next + 1 = b := by simpa [blkOf] using hb
      omega
    have fin0 := fin S3 _ (Kept.refl _ _) (by rw [hF0]; exact hFa) hbN
    repeat' (first
    | (with_reducible first | refine W_pushC fun K hK => ?_ | refine W_blockI ?_ | refine W_scopeI ?_ | refine W_labelI ?_ | refine W_skipI ?_ | refine W_retI ?_ | refine W_exitI ?_ | refine then_normalI ?_ | refine then_retI ?_ | refine then_exitI ?_ | refine inBlock_normalI ?_ | refine inBlock_retI ?_ | refine inBlock_exitI ?_ | refine inBlock_exitN (by decide) ?_)
    | ((with_reducible first | refine bodyQ_normal0 ?_ | refine bodyQ_normal1 ?_ | refine bodyQ_normal2 ?_ | refine bodyQ_normal3 ?_ | refine bodyQ_normal4 ?_ | refine bodyQ_ret0 ?_ | refine bodyQ_ret1 ?_ | refine bodyQ_ret2 ?_ | refine bodyQ_ret3 ?_ | refine bodyQ_ret4 ?_); (try simp only [EVB, Nat.reduceEqDiff, reduceIte]))
    | (with_reducible first | refine bodyQ_retC1 fun cR hcR => ?_ | refine bodyQ_retC2 fun cR hcR => ?_ | refine bodyQ_retC3 fun cR hcR => ?_ | refine bodyQ_retC5 fun cR hcR => ?_)
    | ((with_reducible refine hcR _ ?_); (try simp only [EVB, Nat.reduceEqDiff, reduceIte]))
    | ((with_reducible show C _ _ _ _ _ _); first | (refine Reason_C h ?_) | (refine minor_C h ?_) | (refine h.itoaT _ _ _ (by omega) hP1 ?_) | ((refine h.join _ _ _ _ _ _ _ _ (St.get_push_self _ _) (by omega) (by rw [hx3]; have : (⟨#[32]⟩ : ByteArray).size = 1 := rfl; omega) ?_)))
    | (with_reducible refine Cont.use (by assumption) ?_)
    | (with_reducible first | refine hcA ?_ | refine hcB ?_)
    | ((with_reducible first | refine W_condG fun cA cB hcA hcB => ?_ | refine W_regionI ?_ | show O _ _ _ _ _ _ _ _ | show OK _ _ _ _ _ _ _ _ _ | show OKF _ _ _ _ _ _ _ _ _ _ | show OKT _ _ _ _ _ _ _ _ _ _ _ _ | show _ ∧ _ | show CG _ _ _ | show CB _ _ _ | show RL _ _); simp (disch := first | ((with_reducible show isStop _ = false); rfl) | ((with_reducible show isP _ = true); rfl) | ((with_reducible show (isStop _ || isP _) = false); rfl) | assumption | (simp only [GSB, Nat.reduceEqDiff, reduceIte]; done) | omega | (with_reducible decide) | (simp only [DSB, Go.Proofs.YtdmbgbennlnpcaaDoorAbs.oneC, Go.Proofs.YtdmbgbennlnpcaaDoorAbs.St.next_withLow, Nat.reduceAdd, Nat.reduceLeDiff] <;> omega) | fail) only [↓DN, ↓reduceIte, UP, CGC, Int.reduceEq, Int.reduceLT, Int.reduceLE, Nat.reduceEqDiff, Nat.reduceAdd, Nat.reduceMul, Nat.reduceSub, Int.reduceToNat, Nat.reduceLeDiff, PF, isStop, isP, goInt, beq_self_eq_true, decide_true, decide_false, Int.toNat_natCast, Int.natCast_zero, hS1, g1, r0, d2, d3])
    | ((with_reducible refine CB_intro (fun ht => hcA ?_) (fun ht => hcB ?_)) <;> (first | (simp only [Bool.true_eq_false, Bool.false_eq_true] at ht; done) | ((try simp only [Bool.not_eq_true', Bool.not_eq_false'] at ht); (try simp only [ht]); (try simp only [HTN] at ht); (try (exfalso; omega)))))
    | ((with_reducible refine W_regionI ?_); simp only [List.append_eq, List.cons_append, List.nil_append])
    | (with_reducible refine O_splitG fun cA cB hcA hcB => ?_))
    repeat' (first
    | (with_reducible first | refine W_pushC fun K hK => ?_ | refine W_blockI ?_ | refine W_scopeI ?_ | refine W_labelI ?_ | refine W_skipI ?_ | refine W_retI ?_ | refine W_exitI ?_ | refine then_normalI ?_ | refine then_retI ?_ | refine then_exitI ?_ | refine inBlock_normalI ?_ | refine inBlock_retI ?_ | refine inBlock_exitI ?_ | refine inBlock_exitN (by decide) ?_)
    | ((with_reducible first | refine bodyQ_normal0 ?_ | refine bodyQ_normal1 ?_ | refine bodyQ_normal2 ?_ | refine bodyQ_normal3 ?_ | refine bodyQ_normal4 ?_ | refine bodyQ_ret0 ?_ | refine bodyQ_ret1 ?_ | refine bodyQ_ret2 ?_ | refine bodyQ_ret3 ?_ | refine bodyQ_ret4 ?_); (try simp only [EVB, Nat.reduceEqDiff, reduceIte]))
    | (with_reducible first | refine bodyQ_retC1 fun cR hcR => ?_ | refine bodyQ_retC2 fun cR hcR => ?_ | refine bodyQ_retC3 fun cR hcR => ?_ | refine bodyQ_retC5 fun cR hcR => ?_)
    | ((with_reducible refine hcR _ ?_); (try simp only [EVB, Nat.reduceEqDiff, reduceIte]))
    | ((with_reducible show C _ _ _ _ _ _); first | (refine h.itoa _ bs.size _ (by omega) ?_))
    | (with_reducible refine Cont.use (by assumption) ?_)
    | (with_reducible first | refine hcA ?_ | refine hcB ?_)
    | ((with_reducible first | refine W_condG fun cA cB hcA hcB => ?_ | refine W_regionI ?_ | show O _ _ _ _ _ _ _ _ | show OK _ _ _ _ _ _ _ _ _ | show OKF _ _ _ _ _ _ _ _ _ _ | show OKT _ _ _ _ _ _ _ _ _ _ _ _ | show _ ∧ _ | show CG _ _ _ | show CB _ _ _ | show RL _ _); simp (disch := first | ((with_reducible show isStop _ = false); rfl) | ((with_reducible show isP _ = true); rfl) | ((with_reducible show (isStop _ || isP _) = false); rfl) | assumption | (simp only [GSB, Nat.reduceEqDiff, reduceIte]; done) | omega | (with_reducible decide) | (simp only [DSB, Go.Proofs.YtdmbgbennlnpcaaDoorAbs.oneC, Go.Proofs.YtdmbgbennlnpcaaDoorAbs.St.next_withLow, Nat.reduceAdd, Nat.reduceLeDiff] <;> omega) | fail) only [↓DN, ↓reduceIte, UP, CGC, Int.reduceEq, Int.reduceLT, Int.reduceLE, Nat.reduceEqDiff, Nat.reduceAdd, Nat.reduceMul, Nat.reduceSub, Int.reduceToNat, Nat.reduceLeDiff, PF, isStop, isP, goInt, beq_self_eq_true, decide_true, decide_false, Int.toNat_natCast, Int.natCast_zero, a1, hS3, cvb, g3])
    | ((with_reducible refine CB_intro (fun ht => hcA ?_) (fun ht => hcB ?_)) <;> (first | (simp only [Bool.true_eq_false, Bool.false_eq_true] at ht; done) | ((try simp only [Bool.not_eq_true', Bool.not_eq_false'] at ht); (try simp only [ht]); (try simp only [HTN] at ht); (try (exfalso; omega)))))
    | ((with_reducible refine W_regionI ?_); simp only [List.append_eq, List.cons_append, List.nil_append])
    | (with_reducible refine O_splitG fun cA cB hcA hcB => ?_)
    | (exact fin0 _))
  · have hF1 : locF (t : Int) true = locA bs.size ++ locC := by rw [hbz]; rfl
    repeat' (first
    | (with_reducible first | refine W_pushC fun K hK => ?_ | refine W_blockI ?_ | refine W_scopeI ?_ | refine W_labelI ?_ | refine W_skipI ?_ | refine W_retI ?_ | refine W_exitI ?_ | refine then_normalI ?_ | refine then_retI ?_ | refine then_exitI ?_ | refine inBlock_normalI ?_ | refine inBlock_retI ?_ | refine inBlock_exitI ?_ | refine inBlock_exitN (by decide) ?_)
    | ((with_reducible first | refine bodyQ_normal0 ?_ | refine bodyQ_normal1 ?_ | refine bodyQ_normal2 ?_ | refine bodyQ_normal3 ?_ | refine bodyQ_normal4 ?_ | refine bodyQ_ret0 ?_ | refine bodyQ_ret1 ?_ | refine bodyQ_ret2 ?_ | refine bodyQ_ret3 ?_ | refine bodyQ_ret4 ?_); (try simp only [EVB, Nat.reduceEqDiff, reduceIte]))
    | (with_reducible first | refine bodyQ_retC1 fun cR hcR => ?_ | refine bodyQ_retC2 fun cR hcR => ?_ | refine bodyQ_retC3 fun cR hcR => ?_ | refine bodyQ_retC5 fun cR hcR => ?_)
    | ((with_reducible refine hcR _ ?_); (try simp only [EVB, Nat.reduceEqDiff, reduceIte]))
    | ((with_reducible show C _ _ _ _ _ _); first | (refine Reason_C h ?_) | (refine minor_C h ?_) | (refine h.itoaT _ _ _ (by omega) hP1 ?_) | ((refine h.join _ _ _ _ _ _ _ _ (St.get_push_self _ _) (by omega) (by rw [hx3]; have : (⟨#[32]⟩ : ByteArray).size = 1 := rfl; omega) ?_)))
    | (with_reducible refine Cont.use (by assumption) ?_)
    | (with_reducible first | refine hcA ?_ | refine hcB ?_)
    | ((with_reducible first | refine W_condG fun cA cB hcA hcB => ?_ | refine W_regionI ?_ | show O _ _ _ _ _ _ _ _ | show OK _ _ _ _ _ _ _ _ _ | show OKF _ _ _ _ _ _ _ _ _ _ | show OKT _ _ _ _ _ _ _ _ _ _ _ _ | show _ ∧ _ | show CG _ _ _ | show CB _ _ _ | show RL _ _); simp (disch := first | ((with_reducible show isStop _ = false); rfl) | ((with_reducible show isP _ = true); rfl) | ((with_reducible show (isStop _ || isP _) = false); rfl) | assumption | (simp only [GSB, Nat.reduceEqDiff, reduceIte]; done) | omega | (with_reducible decide) | (simp only [DSB, Go.Proofs.YtdmbgbennlnpcaaDoorAbs.oneC, Go.Proofs.YtdmbgbennlnpcaaDoorAbs.St.next_withLow, Nat.reduceAdd, Nat.reduceLeDiff] <;> omega) | fail) only [↓DN, ↓reduceIte, UP, CGC, Int.reduceEq, Int.reduceLT, Int.reduceLE, Nat.reduceEqDiff, Nat.reduceAdd, Nat.reduceMul, Nat.reduceSub, Int.reduceToNat, Nat.reduceLeDiff, PF, isStop, isP, goInt, beq_self_eq_true, decide_true, decide_false, Int.toNat_natCast, Int.natCast_zero, hS1, g1, r0, d2, d3])
    | ((with_reducible refine CB_intro (fun ht => hcA ?_) (fun ht => hcB ?_)) <;> (first | (simp only [Bool.true_eq_false, Bool.false_eq_true] at ht; done) | ((try simp only [Bool.not_eq_true', Bool.not_eq_false'] at ht); (try simp only [ht]); (try simp only [HTN] at ht); (try (exfalso; omega)))))
    | ((with_reducible refine W_regionI ?_); simp only [List.append_eq, List.cons_append, List.nil_append])
    | (with_reducible refine O_splitG fun cA cB hcA hcB => ?_))
    repeat' (first
    | (with_reducible first | refine W_pushC fun K hK => ?_ | refine W_blockI ?_ | refine W_scopeI ?_ | refine W_labelI ?_ | refine W_skipI ?_ | refine W_retI ?_ | refine W_exitI ?_ | refine then_normalI ?_ | refine then_retI ?_ | refine then_exitI ?_ | refine inBlock_normalI ?_ | refine inBlock_retI ?_ | refine inBlock_exitI ?_ | refine inBlock_exitN (by decide) ?_)
    | ((with_reducible first | refine bodyQ_normal0 ?_ | refine bodyQ_normal1 ?_ | refine bodyQ_normal2 ?_ | refine bodyQ_normal3 ?_ | refine bodyQ_normal4 ?_ | refine bodyQ_ret0 ?_ | refine bodyQ_ret1 ?_ | refine bodyQ_ret2 ?_ | refine bodyQ_ret3 ?_ | refine bodyQ_ret4 ?_); (try simp only [EVB, Nat.reduceEqDiff, reduceIte]))
    | (with_reducible first | refine bodyQ_retC1 fun cR hcR => ?_ | refine bodyQ_retC2 fun cR hcR => ?_ | refine bodyQ_retC3 fun cR hcR => ?_ | refine bodyQ_retC5 fun cR hcR => ?_)
    | ((with_reducible refine hcR _ ?_); (try simp only [EVB, Nat.reduceEqDiff, reduceIte]))
    | ((with_reducible show C _ _ _ _ _ _); first | (refine h.itoa _ bs.size _ (by omega) ?_))
    | (with_reducible refine Cont.use (by assumption) ?_)
    | (with_reducible first | refine hcA ?_ | refine hcB ?_)
    | ((with_reducible first | refine W_condG fun cA cB hcA hcB => ?_ | refine W_regionI ?_ | show O _ _ _ _ _ _ _ _ | show OK _ _ _ _ _ _ _ _ _ | show OKF _ _ _ _ _ _ _ _ _ _ | show OKT _ _ _ _ _ _ _ _ _ _ _ _ | show _ ∧ _ | show CG _ _ _ | show CB _ _ _ | show RL _ _); simp (disch := first | ((with_reducible show isStop _ = false); rfl) | ((with_reducible show isP _ = true); rfl) | ((with_reducible show (isStop _ || isP _) = false); rfl) | assumption | (simp only [GSB, Nat.reduceEqDiff, reduceIte]; done) | omega | (with_reducible decide) | (simp only [DSB, Go.Proofs.YtdmbgbennlnpcaaDoorAbs.oneC, Go.Proofs.YtdmbgbennlnpcaaDoorAbs.St.next_withLow, Nat.reduceAdd, Nat.reduceLeDiff] <;> omega) | fail) only [↓DN, ↓reduceIte, UP, CGC, Int.reduceEq, Int.reduceLT, Int.reduceLE, Nat.reduceEqDiff, Nat.reduceAdd, Nat.reduceMul, Nat.reduceSub, Int.reduceToNat, Nat.reduceLeDiff, PF, isStop, isP, goInt, beq_self_eq_true, decide_true, decide_false, Int.toNat_natCast, Int.natCast_zero, a1, hS3, cvb, g3])
    | ((with_reducible refine CB_intro (fun ht => hcA ?_) (fun ht => hcB ?_)) <;> (first | (simp only [Bool.true_eq_false, Bool.false_eq_true] at ht; done) | ((try simp only [Bool.not_eq_true', Bool.not_eq_false'] at ht); (try simp only [ht]); (try simp only [HTN] at ht); (try (exfalso; omega)))))
    | ((with_reducible refine W_regionI ?_); simp only [List.append_eq, List.cons_append, List.nil_append])
    | (with_reducible refine O_splitG fun cA cB hcA hcB => ?_))
    have gp : ∀ B, aread (S3.push B) ⟨S1.next + 1, 0, some 4⟩ (2 * 2) = some (fldv (locA bs.size)) := fun B => by
      unfold aread
      simp only [St.get_push_ne S3 B (show S1.next + 1 ≠ S3.next by omega), gl]
      rw [if_pos ⟨fun _ => ⟨Nat.zero_le _, by decide⟩, (show 0 + 2 * 2 ≤ (fldv (locA bs.size)).length by rw [hfl]; simp)⟩]
      rfl
    have gx : ∀ B : Blk, B = ⟨fldv locC, 50, true, 0⟩ → asrc Tryd.prog (S3.push B) 22 2 (.slice (some ⟨S3.next, 0, some 2⟩) 1 1) = some (1, fldv locC) := fun B hB => by
      subst hB
      exact asrc_own_lit (m := 0) u22 (St.get_push_self _ _) (Nat.zero_le _) rfl (fldv_one _)
    refine O_litF (P := Tryd.prog) (elem := 50) (size := 2) (bytes := 32) (n := 2) (m := 1) (b := S1.next + 1) (o := 0) (L := 4) (c := 2) (xs := fldv (locA bs.size)) (ys := fldv locC) u22 sz50 by50 ze50 ⟨by decide, by decide, rfl⟩ (by simp only [EVB, Nat.reduceEqDiff, reduceIte]) (by decide) (by decide) (by decide) (gp _) rfl (fldv_one _) (by simp only [EVB, Nat.reduceEqDiff, reduceIte]; exact gx _ rfl) (by decide) ⟨rfl, fldv_one _⟩ (by decide) fun v4 S4 hO4 k4 hN4 => ?_
    have k34 : Kept S3 S4 none := (Kept.push _ none).trans k4.kept
    have l4 := k34.1
    have g4 := k34.get (by omega) g3
    have hF4 : RF S4 v4 (locF (t : Int) true) := by
      rw [hF1]
      exact RF.own (l := locA bs.size ++ locC) (by rw [show fldv (locA bs.size ++ locC) = fldv (locA bs.size) ++ fldv locC from rfl]; exact hO4)
    obtain ⟨va, vk, ev⟩ := own_slice hO4
    subst ev
    have fin1 := fin S4 _ k34 hF4 (fun b hb => by have := hN4 b hb; rw [St.next_push] at this; omega)
    repeat' (first
    | (with_reducible first | refine W_pushC fun K hK => ?_ | refine W_blockI ?_ | refine W_scopeI ?_ | refine W_labelI ?_ | refine W_skipI ?_ | refine W_retI ?_ | refine W_exitI ?_ | refine then_normalI ?_ | refine then_retI ?_ | refine then_exitI ?_ | refine inBlock_normalI ?_ | refine inBlock_retI ?_ | refine inBlock_exitI ?_ | refine inBlock_exitN (by decide) ?_)
    | ((with_reducible first | refine bodyQ_normal0 ?_ | refine bodyQ_normal1 ?_ | refine bodyQ_normal2 ?_ | refine bodyQ_normal3 ?_ | refine bodyQ_normal4 ?_ | refine bodyQ_ret0 ?_ | refine bodyQ_ret1 ?_ | refine bodyQ_ret2 ?_ | refine bodyQ_ret3 ?_ | refine bodyQ_ret4 ?_); (try simp only [EVB, Nat.reduceEqDiff, reduceIte]))
    | (with_reducible first | refine bodyQ_retC1 fun cR hcR => ?_ | refine bodyQ_retC2 fun cR hcR => ?_ | refine bodyQ_retC3 fun cR hcR => ?_ | refine bodyQ_retC5 fun cR hcR => ?_)
    | ((with_reducible refine hcR _ ?_); (try simp only [EVB, Nat.reduceEqDiff, reduceIte]))
    | (with_reducible refine Cont.use (by assumption) ?_)
    | (with_reducible first | refine hcA ?_ | refine hcB ?_)
    | ((with_reducible first | refine W_condG fun cA cB hcA hcB => ?_ | refine W_regionI ?_ | show O _ _ _ _ _ _ _ _ | show OK _ _ _ _ _ _ _ _ _ | show OKF _ _ _ _ _ _ _ _ _ _ | show OKT _ _ _ _ _ _ _ _ _ _ _ _ | show _ ∧ _ | show CG _ _ _ | show CB _ _ _ | show RL _ _); simp (disch := first | ((with_reducible show isStop _ = false); rfl) | ((with_reducible show isP _ = true); rfl) | ((with_reducible show (isStop _ || isP _) = false); rfl) | assumption | (simp only [GSB, Nat.reduceEqDiff, reduceIte]; done) | omega | (with_reducible decide) | (simp only [DSB, Go.Proofs.YtdmbgbennlnpcaaDoorAbs.oneC, Go.Proofs.YtdmbgbennlnpcaaDoorAbs.St.next_withLow, Nat.reduceAdd, Nat.reduceLeDiff] <;> omega) | fail) only [↓DN, ↓reduceIte, UP, CGC, Int.reduceEq, Int.reduceLT, Int.reduceLE, Nat.reduceEqDiff, Nat.reduceAdd, Nat.reduceMul, Nat.reduceSub, Int.reduceToNat, Nat.reduceLeDiff, PF, isStop, isP, goInt, beq_self_eq_true, decide_true, decide_false, Int.toNat_natCast, Int.natCast_zero, cvb, g4])
    | ((with_reducible refine CB_intro (fun ht => hcA ?_) (fun ht => hcB ?_)) <;> (first | (simp only [Bool.true_eq_false, Bool.false_eq_true] at ht; done) | ((try simp only [Bool.not_eq_true', Bool.not_eq_false'] at ht); (try simp only [ht]); (try simp only [HTN] at ht); (try (exfalso; omega)))))
    | ((with_reducible refine W_regionI ?_); simp only [List.append_eq, List.cons_append, List.nil_append])
    | (with_reducible refine O_splitG fun cA cB hcA hcB => ?_)
    | (exact fin1 _))
end
end Go.Proofs.YtdmbgbennlnpcaaDoor.Q
namespace Go.Proofs.YtdmbgbennlnpcaaDoor.Q
open Go Go.Proofs.YtdmbgbennlnpcaaDoorAbs Go.Proofs
set_option linter.unusedVariables false
set_option linter.unusedSimpArgs false
set_option maxRecDepth 100000
set_option maxHeartbeats 4000000
attribute [local irreducible] Go.Proofs.YtdmbgbennlnpcaaDoorAbs.O Go.Proofs.YtdmbgbennlnpcaaDoorAbs.W Go.Proofs.YtdmbgbennlnpcaaDoorAbs.C Go.Proofs.YtdmbgbennlnpcaaDoorAbs.OK Go.Proofs.YtdmbgbennlnpcaaDoorAbs.OKF Go.Proofs.YtdmbgbennlnpcaaDoorAbs.OKT Go.Proofs.YtdmbgbennlnpcaaDoorAbs.then_ Go.Proofs.YtdmbgbennlnpcaaDoorAbs.inBlock_ Go.Proofs.YtdmbgbennlnpcaaDoorAbs.bodyQ Go.Proofs.YtdmbgbennlnpcaaDoorAbs.Cont
section
variable {I : Prims} {S S0 : St} {c : Int} {Q : Value → St → Prop} {e : Env}
theorem RLocal_C (h : HP I) {status m : Int} {last : Bool}
    (hQ1 : okLoc status m → ∀ S' vl vb, Kept S S' none → RF S' vl (locF status last) → Own 5 1 S' vb (bodyL status).length (u8v (bodyL status)) → Q (.tuple #[.agg #[.int .i64 status, .string (reasonF status), .int .i64 m, vl], vb, .int .i64 0]) S')
    (hQ0 : ¬ okLoc status m → ∀ S', Kept S S' none → Q (.tuple #[.agg #[.int .i64 0, .string ⟨#[]⟩, .int .i64 0, .slice none 0 0], .slice none 0 0, .int .i64 20]) S') :
    C Tryd.prog I 10 #[.int .i64 status, .int .i64 m, .bool last] S Q := by
  refine C_body (rs := [.cell 6 24, .tmp 7, .tmp 8]) (h.no 10 (by decide)) Tryd.func10 rfl rfl ok10 ?_
  obtain ⟨sz24, u9, sz3, u3, sz9, sz22, u22, u25, sz5, u5, sz38, u4, sz49, sz50, u58, u70, sz85, sz98, u103, sz25, u114, sz113, u88, sz27, sz108, u108, sz4, sz96, u96, u2, sz123, u123, sz130, u130, u139, sz103, u140, sz141, u142, u141, u21⟩ := UF
  obtain ⟨S1, hS1⟩ : ∃ S1, S.push ⟨[.int .i64 0, .string ⟨#[]⟩, .int .i64 0, .slice none 0 0], 24, true, 0⟩ = S1 := ⟨_, rfl⟩
  have n1 : S1.next = S.next + 1 := by rw [← hS1]; rfl
  have k1 : Kept S S1 none := by rw [← hS1]; exact Kept.push _ none
  have g1 : S1.get S.next = some ⟨[.int .i64 0, .string ⟨#[]⟩, .int .i64 0, .slice none 0 0], 24, true, 0⟩ := by rw [← hS1]; exact St.get_push_self _ _
  repeat' (first
    | (with_reducible first | refine W_pushC fun K hK => ?_ | refine W_blockI ?_ | refine W_scopeI ?_ | refine W_labelI ?_ | refine W_skipI ?_ | refine W_retI ?_ | refine W_exitI ?_ | refine then_normalI ?_ | refine then_retI ?_ | refine then_exitI ?_ | refine inBlock_normalI ?_ | refine inBlock_retI ?_ | refine inBlock_exitI ?_ | refine inBlock_exitN (by decide) ?_)
    | ((with_reducible first | refine bodyQ_normal0 ?_ | refine bodyQ_normal1 ?_ | refine bodyQ_normal2 ?_ | refine bodyQ_normal3 ?_ | refine bodyQ_normal4 ?_ | refine bodyQ_ret0 ?_ | refine bodyQ_ret1 ?_ | refine bodyQ_ret2 ?_ | refine bodyQ_ret3 ?_ | refine bodyQ_ret4 ?_); (try simp only [EVB, Nat.reduceEqDiff, reduceIte]))
    | (with_reducible first | refine bodyQ_retC1 fun cR hcR => ?_ | refine bodyQ_retC2 fun cR hcR => ?_ | refine bodyQ_retC3 fun cR hcR => ?_ | refine bodyQ_retC5 fun cR hcR => ?_)
    | ((with_reducible refine hcR _ ?_); (try simp only [EVB, Nat.reduceEqDiff, reduceIte]))
    | (with_reducible refine Cont.use (by assumption) ?_)
    | (with_reducible first | refine hcA ?_ | refine hcB ?_)
    | ((with_reducible first | refine W_condG fun cA cB hcA hcB => ?_ | refine W_regionI ?_ | show O _ _ _ _ _ _ _ _ | show OK _ _ _ _ _ _ _ _ _ | show OKF _ _ _ _ _ _ _ _ _ _ | show OKT _ _ _ _ _ _ _ _ _ _ _ _ | show _ ∧ _ | show CG _ _ _ | show CB _ _ _ | show RL _ _); simp (disch := first | ((with_reducible show isStop _ = false); rfl) | ((with_reducible show isP _ = true); rfl) | ((with_reducible show (isStop _ || isP _) = false); rfl) | assumption | (simp only [GSB, Nat.reduceEqDiff, reduceIte]; done) | omega | (with_reducible decide) | (simp only [DSB, Go.Proofs.YtdmbgbennlnpcaaDoorAbs.oneC, Go.Proofs.YtdmbgbennlnpcaaDoorAbs.St.next_withLow, Nat.reduceAdd, Nat.reduceLeDiff] <;> omega) | fail) only [↓DN, ↓reduceIte, UP, CGC, Int.reduceEq, Int.reduceLT, Int.reduceLE, Nat.reduceEqDiff, Nat.reduceAdd, Nat.reduceMul, Nat.reduceSub, Int.reduceToNat, Nat.reduceLeDiff, PF, isStop, isP, goInt, beq_self_eq_true, decide_true, decide_false, Int.toNat_natCast, Int.natCast_zero, hS1])
    | ((with_reducible refine CB_intro (fun ht => hcA ?_) (fun ht => hcB ?_)) <;> (first | (simp only [Bool.true_eq_false, Bool.false_eq_true] at ht; done) | ((try simp only [Bool.not_eq_true', Bool.not_eq_false'] at ht); (try simp only [ht]); (try simp only [HTN] at ht); (try (exfalso; omega)))))
    | ((with_reducible refine W_regionI ?_); simp only [List.append_eq, List.cons_append, List.nil_append])
    | (with_reducible refine O_splitG fun cA cB hcA hcB => ?_))
  refine RReason_L h fun S2 j2 => ?_
  have k2 := j2.kept
  have l2 := k2.1
  have k02 := k1.trans k2
  have g2 := k2.get (by omega) g1
  have hbad : ¬ okLoc status m → ∀ B : Blk, Q (.tuple #[.agg #[.int .i64 0, .string ⟨#[]⟩, .int .i64 0, .slice none 0 0], .slice none 0 0, .int .i64 20]) (S2.upd S.next B) := fun q B => hQ0 q _ (Kept.upd k02 (Nat.le_refl _) _)
  by_cases b1 : reasonF status = ⟨#[]⟩
  · have r0 : ((reasonF status).toList == (⟨#[]⟩ : ByteArray).toList) = true := by rw [b1]; exact beq_self_eq_true _
    have hq := hbad (fun q => q.1 b1)
    repeat' (first
    | (with_reducible first | refine W_pushC fun K hK => ?_ | refine W_blockI ?_ | refine W_scopeI ?_ | refine W_labelI ?_ | refine W_skipI ?_ | refine W_retI ?_ | refine W_exitI ?_ | refine then_normalI ?_ | refine then_retI ?_ | refine then_exitI ?_ | refine inBlock_normalI ?_ | refine inBlock_retI ?_ | refine inBlock_exitI ?_ | refine inBlock_exitN (by decide) ?_)
    | ((with_reducible first | refine bodyQ_normal0 ?_ | refine bodyQ_normal1 ?_ | refine bodyQ_normal2 ?_ | refine bodyQ_normal3 ?_ | refine bodyQ_normal4 ?_ | refine bodyQ_ret0 ?_ | refine bodyQ_ret1 ?_ | refine bodyQ_ret2 ?_ | refine bodyQ_ret3 ?_ | refine bodyQ_ret4 ?_); (try simp only [EVB, Nat.reduceEqDiff, reduceIte]))
    | (with_reducible first | refine bodyQ_retC1 fun cR hcR => ?_ | refine bodyQ_retC2 fun cR hcR => ?_ | refine bodyQ_retC3 fun cR hcR => ?_ | refine bodyQ_retC5 fun cR hcR => ?_)
    | ((with_reducible refine hcR _ ?_); (try simp only [EVB, Nat.reduceEqDiff, reduceIte]))
    | (with_reducible refine Cont.use (by assumption) ?_)
    | (with_reducible first | refine hcA ?_ | refine hcB ?_)
    | ((with_reducible first | refine W_condG fun cA cB hcA hcB => ?_ | refine W_regionI ?_ | show O _ _ _ _ _ _ _ _ | show OK _ _ _ _ _ _ _ _ _ | show OKF _ _ _ _ _ _ _ _ _ _ | show OKT _ _ _ _ _ _ _ _ _ _ _ _ | show _ ∧ _ | show CG _ _ _ | show CB _ _ _ | show RL _ _); simp (disch := first | ((with_reducible show isStop _ = false); rfl) | ((with_reducible show isP _ = true); rfl) | ((with_reducible show (isStop _ || isP _) = false); rfl) | assumption | (simp only [GSB, Nat.reduceEqDiff, reduceIte]; done) | omega | (with_reducible decide) | (simp only [DSB, Go.Proofs.YtdmbgbennlnpcaaDoorAbs.oneC, Go.Proofs.YtdmbgbennlnpcaaDoorAbs.St.next_withLow, Nat.reduceAdd, Nat.reduceLeDiff] <;> omega) | fail) only [↓DN, ↓reduceIte, UP, CGC, Int.reduceEq, Int.reduceLT, Int.reduceLE, Nat.reduceEqDiff, Nat.reduceAdd, Nat.reduceMul, Nat.reduceSub, Int.reduceToNat, Nat.reduceLeDiff, PF, isStop, isP, goInt, beq_self_eq_true, decide_true, decide_false, Int.toNat_natCast, Int.natCast_zero, g2, r0])
    | ((with_reducible refine CB_intro (fun ht => hcA ?_) (fun ht => hcB ?_)) <;> (first | (simp only [Bool.true_eq_false, Bool.false_eq_true] at ht; done) | ((try simp only [Bool.not_eq_true', Bool.not_eq_false'] at ht); (try simp only [ht]); (try simp only [HTN] at ht); (try (exfalso; omega)))))
    | ((with_reducible refine W_regionI ?_); simp only [List.append_eq, List.cons_append, List.nil_append])
    | (with_reducible refine O_splitG fun cA cB hcA hcB => ?_)
    | (exact hq _))
  have r0 := str_ne b1
  by_cases b2 : status = 200
  · have d2 : decide (status = 200) = true := decide_eq_true b2
    have hq := hbad (fun q => q.2.1 b2)
    repeat' (first
    | (with_reducible first | refine W_pushC fun K hK => ?_ | refine W_blockI ?_ | refine W_scopeI ?_ | refine W_labelI ?_ | refine W_skipI ?_ | refine W_retI ?_ | refine W_exitI ?_ | refine then_normalI ?_ | refine then_retI ?_ | refine then_exitI ?_ | refine inBlock_normalI ?_ | refine inBlock_retI ?_ | refine inBlock_exitI ?_ | refine inBlock_exitN (by decide) ?_)
    | ((with_reducible first | refine bodyQ_normal0 ?_ | refine bodyQ_normal1 ?_ | refine bodyQ_normal2 ?_ | refine bodyQ_normal3 ?_ | refine bodyQ_normal4 ?_ | refine bodyQ_ret0 ?_ | refine bodyQ_ret1 ?_ | refine bodyQ_ret2 ?_ | refine bodyQ_ret3 ?_ | refine bodyQ_ret4 ?_); (try simp only [EVB, Nat.reduceEqDiff, reduceIte]))
    | (with_reducible first | refine bodyQ_retC1 fun cR hcR => ?_ | refine bodyQ_retC2 fun cR hcR => ?_ | refine bodyQ_retC3 fun cR hcR => ?_ | refine bodyQ_retC5 fun cR hcR => ?_)
    | ((with_reducible refine hcR _ ?_); (try simp only [EVB, Nat.reduceEqDiff, reduceIte]))
    | (with_reducible refine Cont.use (by assumption) ?_)
    | (with_reducible first | refine hcA ?_ | refine hcB ?_)
    | ((with_reducible first | refine W_condG fun cA cB hcA hcB => ?_ | refine W_regionI ?_ | show O _ _ _ _ _ _ _ _ | show OK _ _ _ _ _ _ _ _ _ | show OKF _ _ _ _ _ _ _ _ _ _ | show OKT _ _ _ _ _ _ _ _ _ _ _ _ | show _ ∧ _ | show CG _ _ _ | show CB _ _ _ | show RL _ _); simp (disch := first | ((with_reducible show isStop _ = false); rfl) | ((with_reducible show isP _ = true); rfl) | ((with_reducible show (isStop _ || isP _) = false); rfl) | assumption | (simp only [GSB, Nat.reduceEqDiff, reduceIte]; done) | omega | (with_reducible decide) | (simp only [DSB, Go.Proofs.YtdmbgbennlnpcaaDoorAbs.oneC, Go.Proofs.YtdmbgbennlnpcaaDoorAbs.St.next_withLow, Nat.reduceAdd, Nat.reduceLeDiff] <;> omega) | fail) only [↓DN, ↓reduceIte, UP, CGC, Int.reduceEq, Int.reduceLT, Int.reduceLE, Nat.reduceEqDiff, Nat.reduceAdd, Nat.reduceMul, Nat.reduceSub, Int.reduceToNat, Nat.reduceLeDiff, PF, isStop, isP, goInt, beq_self_eq_true, decide_true, decide_false, Int.toNat_natCast, Int.natCast_zero, g2, r0, d2])
    | ((with_reducible refine CB_intro (fun ht => hcA ?_) (fun ht => hcB ?_)) <;> (first | (simp only [Bool.true_eq_false, Bool.false_eq_true] at ht; done) | ((try simp only [Bool.not_eq_true', Bool.not_eq_false'] at ht); (try simp only [ht]); (try simp only [HTN] at ht); (try (exfalso; omega)))))
    | ((with_reducible refine W_regionI ?_); simp only [List.append_eq, List.cons_append, List.nil_append])
    | (with_reducible refine O_splitG fun cA cB hcA hcB => ?_)
    | (exact hq _))
  have d2 : decide (status = 200) = false := decide_eq_false b2
  by_cases b3 : m = 0 ∨ m = 1
  case neg =>
    have hq := hbad (fun q => b3 q.2.2)
    by_cases b4 : m < 0
    · have d3 : decide (m < 0) = true := decide_eq_true b4
      repeat' (first
    | (with_reducible first | refine W_pushC fun K hK => ?_ | refine W_blockI ?_ | refine W_scopeI ?_ | refine W_labelI ?_ | refine W_skipI ?_ | refine W_retI ?_ | refine W_exitI ?_ | refine then_normalI ?_ | refine then_retI ?_ | refine then_exitI ?_ | refine inBlock_normalI ?_ | refine inBlock_retI ?_ | refine inBlock_exitI ?_ | refine inBlock_exitN (by decide) ?_)
    | ((with_reducible first | refine bodyQ_normal0 ?_ | refine bodyQ_normal1 ?_ | refine bodyQ_normal2 ?_ | refine bodyQ_normal3 ?_ | refine bodyQ_normal4 ?_ | refine bodyQ_ret0 ?_ | refine bodyQ_ret1 ?_ | refine bodyQ_ret2 ?_ | refine bodyQ_ret3 ?_ | refine bodyQ_ret4 ?_); (try simp only [EVB, Nat.reduceEqDiff, reduceIte]))
    | (with_reducible first | refine bodyQ_retC1 fun cR hcR => ?_ | refine bodyQ_retC2 fun cR hcR => ?_ | refine bodyQ_retC3 fun cR hcR => ?_ | refine bodyQ_retC5 fun cR hcR => ?_)
    | ((with_reducible refine hcR _ ?_); (try simp only [EVB, Nat.reduceEqDiff, reduceIte]))
    | (with_reducible refine Cont.use (by assumption) ?_)
    | (with_reducible first | refine hcA ?_ | refine hcB ?_)
    | ((with_reducible first | refine W_condG fun cA cB hcA hcB => ?_ | refine W_regionI ?_ | show O _ _ _ _ _ _ _ _ | show OK _ _ _ _ _ _ _ _ _ | show OKF _ _ _ _ _ _ _ _ _ _ | show OKT _ _ _ _ _ _ _ _ _ _ _ _ | show _ ∧ _ | show CG _ _ _ | show CB _ _ _ | show RL _ _); simp (disch := first | ((with_reducible show isStop _ = false); rfl) | ((with_reducible show isP _ = true); rfl) | ((with_reducible show (isStop _ || isP _) = false); rfl) | assumption | (simp only [GSB, Nat.reduceEqDiff, reduceIte]; done) | omega | (with_reducible decide) | (simp only [DSB, Go.Proofs.YtdmbgbennlnpcaaDoorAbs.oneC, Go.Proofs.YtdmbgbennlnpcaaDoorAbs.St.next_withLow, Nat.reduceAdd, Nat.reduceLeDiff] <;> omega) | fail) only [↓DN, ↓reduceIte, UP, CGC, Int.reduceEq, Int.reduceLT, Int.reduceLE, Nat.reduceEqDiff, Nat.reduceAdd, Nat.reduceMul, Nat.reduceSub, Int.reduceToNat, Nat.reduceLeDiff, PF, isStop, isP, goInt, beq_self_eq_true, decide_true, decide_false, Int.toNat_natCast, Int.natCast_zero, g2, r0, d2, d3])
    | ((with_reducible refine CB_intro (fun ht => hcA ?_) (fun ht => hcB ?_)) <;> (first | (simp only [Bool.true_eq_false, Bool.false_eq_true] at ht; done) | ((try simp only [Bool.not_eq_true', Bool.not_eq_false'] at ht); (try simp only [ht]); (try simp only [HTN] at ht); (try (exfalso; omega)))))
    | ((with_reducible refine W_regionI ?_); simp only [List.append_eq, List.cons_append, List.nil_append])
    | (with_reducible refine O_splitG fun cA cB hcA hcB => ?_)
    | (exact hq _))
    · have d3 : decide (m < 0) = false := decide_eq_false b4
      have d4 : decide ((1 : Int) < m) = true := decide_eq_true (by omega)
      repeat' (first
    | (with_reducible first | refine W_pushC fun K hK => ?_ | refine W_blockI ?_ | refine W_scopeI ?_ | refine W_labelI ?_ | refine W_skipI ?_ | refine W_retI ?_ | refine W_exitI ?_ | refine then_normalI ?_ | refine then_retI ?_ | refine then_exitI ?_ | refine inBlock_normalI ?_ | refine inBlock_retI ?_ | refine inBlock_exitI ?_ | refine inBlock_exitN (by decide) ?_)
    | ((with_reducible first | refine bodyQ_normal0 ?_ | refine bodyQ_normal1 ?_ | refine bodyQ_normal2 ?_ | refine bodyQ_normal3 ?_ | refine bodyQ_normal4 ?_ | refine bodyQ_ret0 ?_ | refine bodyQ_ret1 ?_ | refine bodyQ_ret2 ?_ | refine bodyQ_ret3 ?_ | refine bodyQ_ret4 ?_); (try simp only [EVB, Nat.reduceEqDiff, reduceIte]))
    | (with_reducible first | refine bodyQ_retC1 fun cR hcR => ?_ | refine bodyQ_retC2 fun cR hcR => ?_ | refine bodyQ_retC3 fun cR hcR => ?_ | refine bodyQ_retC5 fun cR hcR => ?_)
    | ((with_reducible refine hcR _ ?_); (try simp only [EVB, Nat.reduceEqDiff, reduceIte]))
    | (with_reducible refine Cont.use (by assumption) ?_)
    | (with_reducible first | refine hcA ?_ | refine hcB ?_)
    | ((with_reducible first | refine W_condG fun cA cB hcA hcB => ?_ | refine W_regionI ?_ | show O _ _ _ _ _ _ _ _ | show OK _ _ _ _ _ _ _ _ _ | show OKF _ _ _ _ _ _ _ _ _ _ | show OKT _ _ _ _ _ _ _ _ _ _ _ _ | show _ ∧ _ | show CG _ _ _ | show CB _ _ _ | show RL _ _); simp (disch := first | ((with_reducible show isStop _ = false); rfl) | ((with_reducible show isP _ = true); rfl) | ((with_reducible show (isStop _ || isP _) = false); rfl) | assumption | (simp only [GSB, Nat.reduceEqDiff, reduceIte]; done) | omega | (with_reducible decide) | (simp only [DSB, Go.Proofs.YtdmbgbennlnpcaaDoorAbs.oneC, Go.Proofs.YtdmbgbennlnpcaaDoorAbs.St.next_withLow, Nat.reduceAdd, Nat.reduceLeDiff] <;> omega) | fail) only [↓DN, ↓reduceIte, UP, CGC, Int.reduceEq, Int.reduceLT, Int.reduceLE, Nat.reduceEqDiff, Nat.reduceAdd, Nat.reduceMul, Nat.reduceSub, Int.reduceToNat, Nat.reduceLeDiff, PF, isStop, isP, goInt, beq_self_eq_true, decide_true, decide_false, Int.toNat_natCast, Int.natCast_zero, g2, r0, d2, d3, d4])
    | ((with_reducible refine CB_intro (fun ht => hcA ?_) (fun ht => hcB ?_)) <;> (first | (simp only [Bool.true_eq_false, Bool.false_eq_true] at ht; done) | ((try simp only [Bool.not_eq_true', Bool.not_eq_false'] at ht); (try simp only [ht]); (try simp only [HTN] at ht); (try (exfalso; omega)))))
    | ((with_reducible refine W_regionI ?_); simp only [List.append_eq, List.cons_append, List.nil_append])
    | (with_reducible refine O_splitG fun cA cB hcA hcB => ?_)
    | (exact hq _))
  have d3 : decide (m < 0) = false := decide_eq_false (by omega)
  have d4 : decide ((1 : Int) < m) = false := decide_eq_false (by omega)
  have hok : okLoc status m := ⟨b1, b2, b3⟩
  obtain ⟨o1, o2, o3⟩ := reason_ok b1
  obtain ⟨t, rfl⟩ : ∃ t : Nat, status = (t : Int) := ⟨status.toNat, by omega⟩
  have hrl : (reasonF (t : Int)).data.toList.length = (reasonF (t : Int)).size := Array.length_toList
  have hbl : (bodyL (t : Int)).length = (reasonF (t : Int)).size + 5 := by
    have : (dg3 (t : Int)).length = 3 := rfl
    simp only [bodyL, List.length_append, List.length_cons, List.length_nil]; omega
  obtain ⟨p1, ep1, sp1, a1⟩ := sadd_ex ⟨(dg3 (t : Int)).toArray⟩ ⟨#[32]⟩ 4 rfl (by omega)
  obtain ⟨p2, ep2, sp2, a2⟩ := sadd_ex p1 (reasonF (t : Int)) (4 + (reasonF (t : Int)).size) (by rw [sp1]) (by omega)
  obtain ⟨bs, ep3, sp3, a3⟩ := sadd_ex p2 ⟨#[10]⟩ (4 + (reasonF (t : Int)).size + 1) (by rw [sp2]; rfl) (by omega)
  have hbs : bs = (⟨(bodyL (t : Int)).toArray⟩ : ByteArray) := by
    rw [ep3, ep2, ep1]
    refine ByteArray.ext ?_
    simp [bodyL]
  have cvb : ∀ S : St, aconvert Tryd.prog S 9 25 (.string bs) = some (.slice (some ⟨S.next, 0, some (bodyL (t : Int)).length⟩) (bodyL (t : Int)).length (UNK + 1), S.push ⟨u8v (bodyL (t : Int)), 5, true, 0⟩) := fun S => by rw [hbs]; exact cv_bytes S _
  have three := fun (S : St) (Q : Value → St → Prop) (hq : Q (.string ⟨(dg3 (t : Int)).toArray⟩) S) => three_C (I := I) h (t := t) (by omega) (by omega) hq
  generalize hdt : (⟨(dg3 (t : Int)).toArray⟩ : ByteArray) = dt at three a1
  repeat' (first
    | (with_reducible first | refine W_pushC fun K hK => ?_ | refine W_blockI ?_ | refine W_scopeI ?_ | refine W_labelI ?_ | refine W_skipI ?_ | refine W_retI ?_ | refine W_exitI ?_ | refine then_normalI ?_ | refine then_retI ?_ | refine then_exitI ?_ | refine inBlock_normalI ?_ | refine inBlock_retI ?_ | refine inBlock_exitI ?_ | refine inBlock_exitN (by decide) ?_)
    | ((with_reducible first | refine bodyQ_normal0 ?_ | refine bodyQ_normal1 ?_ | refine bodyQ_normal2 ?_ | refine bodyQ_normal3 ?_ | refine bodyQ_normal4 ?_ | refine bodyQ_ret0 ?_ | refine bodyQ_ret1 ?_ | refine bodyQ_ret2 ?_ | refine bodyQ_ret3 ?_ | refine bodyQ_ret4 ?_); (try simp only [EVB, Nat.reduceEqDiff, reduceIte]))
    | (with_reducible first | refine bodyQ_retC1 fun cR hcR => ?_ | refine bodyQ_retC2 fun cR hcR => ?_ | refine bodyQ_retC3 fun cR hcR => ?_ | refine bodyQ_retC5 fun cR hcR => ?_)
    | ((with_reducible refine hcR _ ?_); (try simp only [EVB, Nat.reduceEqDiff, reduceIte]))
    | ((with_reducible show C _ _ _ _ _ _); first | (refine three _ _ ?_))
    | (with_reducible refine Cont.use (by assumption) ?_)
    | (with_reducible first | refine hcA ?_ | refine hcB ?_)
    | ((with_reducible first | refine W_condG fun cA cB hcA hcB => ?_ | refine W_regionI ?_ | show O _ _ _ _ _ _ _ _ | show OK _ _ _ _ _ _ _ _ _ | show OKF _ _ _ _ _ _ _ _ _ _ | show OKT _ _ _ _ _ _ _ _ _ _ _ _ | show _ ∧ _ | show CG _ _ _ | show CB _ _ _ | show RL _ _); simp (disch := first | ((with_reducible show isStop _ = false); rfl) | ((with_reducible show isP _ = true); rfl) | ((with_reducible show (isStop _ || isP _) = false); rfl) | assumption | (simp only [GSB, Nat.reduceEqDiff, reduceIte]; done) | omega | (with_reducible decide) | (simp only [DSB, Go.Proofs.YtdmbgbennlnpcaaDoorAbs.oneC, Go.Proofs.YtdmbgbennlnpcaaDoorAbs.St.next_withLow, Nat.reduceAdd, Nat.reduceLeDiff] <;> omega) | fail) only [↓DN, ↓reduceIte, UP, CGC, Int.reduceEq, Int.reduceLT, Int.reduceLE, Nat.reduceEqDiff, Nat.reduceAdd, Nat.reduceMul, Nat.reduceSub, Int.reduceToNat, Nat.reduceLeDiff, PF, isStop, isP, goInt, beq_self_eq_true, decide_true, decide_false, Int.toNat_natCast, Int.natCast_zero, g2, r0, d2, d3, d4, a1])
    | ((with_reducible refine CB_intro (fun ht => hcA ?_) (fun ht => hcB ?_)) <;> (first | (simp only [Bool.true_eq_false, Bool.false_eq_true] at ht; done) | ((try simp only [Bool.not_eq_true', Bool.not_eq_false'] at ht); (try simp only [ht]); (try simp only [HTN] at ht); (try (exfalso; omega)))))
    | ((with_reducible refine W_regionI ?_); simp only [List.append_eq, List.cons_append, List.nil_append])
    | (with_reducible refine O_splitG fun cA cB hcA hcB => ?_))
  refine RReason_L h fun S3 j3 => ?_
  have k3 := j3.kept
  have l3 := k3.1
  have g3 := k3.get (by omega) g2
  obtain ⟨S4, hS4⟩ : ∃ S4, S3.push ⟨u8v (bodyL (t : Int)), 5, true, 0⟩ = S4 := ⟨_, rfl⟩
  have n4 : S4.next = S3.next + 1 := by rw [← hS4]; rfl
  have k34 : Kept S3 S4 none := by rw [← hS4]; exact Kept.push _ none
  have hOb : Own 5 1 S4 (.slice (some ⟨S3.next, 0, some (bodyL (t : Int)).length⟩) (bodyL (t : Int)).length (UNK + 1)) (bodyL (t : Int)).length (u8v (bodyL (t : Int))) := by rw [← hS4]; exact own_push1 S3 _ (by omega)
  repeat' (first
    | (with_reducible first | refine W_pushC fun K hK => ?_ | refine W_blockI ?_ | refine W_scopeI ?_ | refine W_labelI ?_ | refine W_skipI ?_ | refine W_retI ?_ | refine W_exitI ?_ | refine then_normalI ?_ | refine then_retI ?_ | refine then_exitI ?_ | refine inBlock_normalI ?_ | refine inBlock_retI ?_ | refine inBlock_exitI ?_ | refine inBlock_exitN (by decide) ?_)
    | ((with_reducible first | refine bodyQ_normal0 ?_ | refine bodyQ_normal1 ?_ | refine bodyQ_normal2 ?_ | refine bodyQ_normal3 ?_ | refine bodyQ_normal4 ?_ | refine bodyQ_ret0 ?_ | refine bodyQ_ret1 ?_ | refine bodyQ_ret2 ?_ | refine bodyQ_ret3 ?_ | refine bodyQ_ret4 ?_); (try simp only [EVB, Nat.reduceEqDiff, reduceIte]))
    | (with_reducible first | refine bodyQ_retC1 fun cR hcR => ?_ | refine bodyQ_retC2 fun cR hcR => ?_ | refine bodyQ_retC3 fun cR hcR => ?_ | refine bodyQ_retC5 fun cR hcR => ?_)
    | ((with_reducible refine hcR _ ?_); (try simp only [EVB, Nat.reduceEqDiff, reduceIte]))
    | (with_reducible refine Cont.use (by assumption) ?_)
    | (with_reducible first | refine hcA ?_ | refine hcB ?_)
    | ((with_reducible first | refine W_condG fun cA cB hcA hcB => ?_ | refine W_regionI ?_ | show O _ _ _ _ _ _ _ _ | show OK _ _ _ _ _ _ _ _ _ | show OKF _ _ _ _ _ _ _ _ _ _ | show OKT _ _ _ _ _ _ _ _ _ _ _ _ | show _ ∧ _ | show CG _ _ _ | show CB _ _ _ | show RL _ _); simp (disch := first | ((with_reducible show isStop _ = false); rfl) | ((with_reducible show isP _ = true); rfl) | ((with_reducible show (isStop _ || isP _) = false); rfl) | assumption | (simp only [GSB, Nat.reduceEqDiff, reduceIte]; done) | omega | (with_reducible decide) | (simp only [DSB, Go.Proofs.YtdmbgbennlnpcaaDoorAbs.oneC, Go.Proofs.YtdmbgbennlnpcaaDoorAbs.St.next_withLow, Nat.reduceAdd, Nat.reduceLeDiff] <;> omega) | fail) only [↓DN, ↓reduceIte, UP, CGC, Int.reduceEq, Int.reduceLT, Int.reduceLE, Nat.reduceEqDiff, Nat.reduceAdd, Nat.reduceMul, Nat.reduceSub, Int.reduceToNat, Nat.reduceLeDiff, PF, isStop, isP, goInt, beq_self_eq_true, decide_true, decide_false, Int.toNat_natCast, Int.natCast_zero, a2, a3, cvb, hS4])
    | ((with_reducible refine CB_intro (fun ht => hcA ?_) (fun ht => hcB ?_)) <;> (first | (simp only [Bool.true_eq_false, Bool.false_eq_true] at ht; done) | ((try simp only [Bool.not_eq_true', Bool.not_eq_false'] at ht); (try simp only [ht]); (try simp only [HTN] at ht); (try (exfalso; omega)))))
    | ((with_reducible refine W_regionI ?_); simp only [List.append_eq, List.cons_append, List.nil_append])
    | (with_reducible refine O_splitG fun cA cB hcA hcB => ?_))
  refine RReason_L h fun S5 j5 => ?_
  have k5 := j5.kept
  have l5 := k5.1
  have k35 := k34.trans k5
  have k05 := k02.trans (k3.trans k35)
  have g5 := k35.get (by omega) g3
  have hOb5 := hOb.kept k5 (.inl rfl)
  generalize hN : (bodyL (t : Int)).length = N at *
  obtain ⟨S8, hS8⟩ : ∃ S8, ((S5.push ⟨fldv (locA N), 50, true, 0⟩).push ⟨[.int .i64 0, .string ⟨#[]⟩, .int .i64 0, .slice none 0 0], 24, true, 0⟩).upd (S5.next + 1) ⟨[.int .i64 (t : Int), .string (reasonF (t : Int)), .int .i64 m, .slice (some ⟨S5.next, 0, some 4⟩) 2 2], 24, true, 4⟩ = S8 := ⟨_, rfl⟩
  have n8 : S8.next = S5.next + 2 := by rw [← hS8]; rfl
  have k58 : Kept S5 S8 none := by rw [← hS8]; exact Kept.upd ((Kept.push _ none).psh _) (by omega) _
  have g8 : S8.get S.next = some ⟨[.int .i64 0, .string ⟨#[]⟩, .int .i64 0, .slice none 0 0], 24, true, 0⟩ := k58.get (by omega) g5
  have gp8 : S8.get (S5.next + 1) = some ⟨[.int .i64 (t : Int), .string (reasonF (t : Int)), .int .i64 m, .slice (some ⟨S5.next, 0, some 4⟩) 2 2], 24, true, 4⟩ := by rw [← hS8]; exact St.get_upd_self _ _ _
  have gl8 : S8.get S5.next = some ⟨fldv (locA N), 50, true, 0⟩ := by
    rw [← hS8, St.get_upd_ne _ _ (by omega), St.get_push_ne _ _ (by show S5.next ≠ S5.next + 1; omega), St.get_push_self]
  have hfl : fldv (locA N) = [.string ⟨#[67, 111, 110, 116, 101, 110, 116, 45, 84, 121, 112, 101]⟩, .string ⟨#[116, 101, 120, 116, 47, 112, 108, 97, 105, 110]⟩, .string ⟨#[67, 111, 110, 116, 101, 110, 116, 45, 76, 101, 110, 103, 116, 104]⟩, .string ⟨(Go.Lib.decDigits N).toArray⟩] := rfl
  rw [hfl] at hS8
  have hbz : bs.size = N := by omega
  have hFa : RF S8 (.slice (some ⟨S5.next, 0, some 4⟩) 2 2) (locA N) := RF.lit gl8 (Nat.zero_le _) rfl (by omega)
  have hOb8 := hOb5.kept k58 (.inl rfl)
  have k08 := k05.trans k58
  have fin : ∀ (S9 : St) (vl : Value), Kept S8 S9 none → RF S9 vl (locF (t : Int) last) → (∀ b, blkOf vl = some b → S5.next ≤ b) → ∀ B1 B2, Q (.tuple #[.agg #[.int .i64 (t : Int), .string (reasonF (t : Int)), .int .i64 m, vl], .slice (some ⟨S3.next, 0, some N⟩) N (UNK + 1), .int .i64 0]) (S9.upd S.next B2) ∧ (blkOf vl ≠ some (S5.next + 1) → Q (.tuple #[.agg #[.int .i64 (t : Int), .string (reasonF (t : Int)), .int .i64 m, vl], .slice (some ⟨S3.next, 0, some N⟩) N (UNK + 1), .int .i64 0]) ((S9.upd (S5.next + 1) B1).upd S.next B2)) := fun S9 vl k9 hF hb B1 B2 => by
    have l9 := k9.1
    have hO9 := hOb8.kept k9 (.inl rfl)
    have ne : some S.next ≠ blkOf (Value.slice (some ⟨S3.next, 0, some N⟩) N (UNK + 1)) := fun q => by
      simp only [blkOf, Option.some.injEq] at q
      omega
    have ne2 : some (S5.next + 1) ≠ blkOf (Value.slice (some ⟨S3.next, 0, some N⟩) N (UNK + 1)) := fun q => by
      simp only [blkOf, Option.some.injEq] at q
      omega
    refine ⟨?_, fun hv => ?_⟩
    · exact hQ1 hok _ _ _ (Kept.upd (k08.trans k9) (Nat.le_refl _) _) (hF.upd fun b hb' => by have := hb b hb'; omega) (hO9.kept (kept_upd _ _ _) (.inr ne))
    · exact hQ1 hok _ _ _ (Kept.upd (Kept.upd (k08.trans k9) (by omega) _) (Nat.le_refl _) _) ((hF.upd fun b hb' q => hv (by rw [hb', q])).upd fun b hb' => by have := hb b hb'; omega) ((hO9.kept (kept_upd _ _ _) (.inr ne2)).kept (kept_upd _ _ _) (.inr ne))
  cases last
  · have hF0 : locF (t : Int) false = locA N := by rw [← hN]; exact List.append_nil _
    have hbN : ∀ b, blkOf (Value.slice (some ⟨S5.next, 0, some 4⟩) 2 2) = some b → S5.next ≤ b := fun b hb => by
      have hb' : S5.next = b := by simpa [blkOf] using hb
      omega
    have fin0 := fun B2 => (fin S8 _ (Kept.refl _ _) (by rw [hF0]; exact hFa) hbN ⟨[], 0, false, 0⟩ B2).1
    repeat' (first
    | (with_reducible first | refine W_pushC fun K hK => ?_ | refine W_blockI ?_ | refine W_scopeI ?_ | refine W_labelI ?_ | refine W_skipI ?_ | refine W_retI ?_ | refine W_exitI ?_ | refine then_normalI ?_ | refine then_retI ?_ | refine then_exitI ?_ | refine inBlock_normalI ?_ | refine inBlock_retI ?_ | refine inBlock_exitI ?_ | refine inBlock_exitN (by decide) ?_)
    | ((with_reducible first | refine bodyQ_normal0 ?_ | refine bodyQ_normal1 ?_ | refine bodyQ_normal2 ?_ | refine bodyQ_normal3 ?_ | refine bodyQ_normal4 ?_ | refine bodyQ_ret0 ?_ | refine bodyQ_ret1 ?_ | refine bodyQ_ret2 ?_ | refine bodyQ_ret3 ?_ | refine bodyQ_ret4 ?_); (try simp only [EVB, Nat.reduceEqDiff, reduceIte]))
    | (with_reducible first | refine bodyQ_retC1 fun cR hcR => ?_ | refine bodyQ_retC2 fun cR hcR => ?_ | refine bodyQ_retC3 fun cR hcR => ?_ | refine bodyQ_retC5 fun cR hcR => ?_)
    | ((with_reducible refine hcR _ ?_); (try simp only [EVB, Nat.reduceEqDiff, reduceIte]))
    | ((with_reducible show C _ _ _ _ _ _); first | (refine RText_C h (by omega) ?_))
    | (with_reducible refine Cont.use (by assumption) ?_)
    | (with_reducible first | refine hcA ?_ | refine hcB ?_)
    | ((with_reducible first | refine W_condG fun cA cB hcA hcB => ?_ | refine W_regionI ?_ | show O _ _ _ _ _ _ _ _ | show OK _ _ _ _ _ _ _ _ _ | show OKF _ _ _ _ _ _ _ _ _ _ | show OKT _ _ _ _ _ _ _ _ _ _ _ _ | show _ ∧ _ | show CG _ _ _ | show CB _ _ _ | show RL _ _); simp (disch := first | ((with_reducible show isStop _ = false); rfl) | ((with_reducible show isP _ = true); rfl) | ((with_reducible show (isStop _ || isP _) = false); rfl) | assumption | (simp only [GSB, Nat.reduceEqDiff, reduceIte]; done) | omega | (with_reducible decide) | (simp only [DSB, Go.Proofs.YtdmbgbennlnpcaaDoorAbs.oneC, Go.Proofs.YtdmbgbennlnpcaaDoorAbs.St.next_withLow, Nat.reduceAdd, Nat.reduceLeDiff] <;> omega) | fail) only [↓DN, ↓reduceIte, UP, CGC, Int.reduceEq, Int.reduceLT, Int.reduceLE, Nat.reduceEqDiff, Nat.reduceAdd, Nat.reduceMul, Nat.reduceSub, Int.reduceToNat, Nat.reduceLeDiff, PF, isStop, isP, goInt, beq_self_eq_true, decide_true, decide_false, Int.toNat_natCast, Int.natCast_zero, hS8, g8, gp8])
    | ((with_reducible refine CB_intro (fun ht => hcA ?_) (fun ht => hcB ?_)) <;> (first | (simp only [Bool.true_eq_false, Bool.false_eq_true] at ht; done) | ((try simp only [Bool.not_eq_true', Bool.not_eq_false'] at ht); (try simp only [ht]); (try simp only [HTN] at ht); (try (exfalso; omega)))))
    | ((with_reducible refine W_regionI ?_); simp only [List.append_eq, List.cons_append, List.nil_append])
    | (with_reducible refine O_splitG fun cA cB hcA hcB => ?_)
    | (exact fin0 _))
  · have hF1 : locF (t : Int) true = locA N ++ locC := by rw [← hN]; rfl
    repeat' (first
    | (with_reducible first | refine W_pushC fun K hK => ?_ | refine W_blockI ?_ | refine W_scopeI ?_ | refine W_labelI ?_ | refine W_skipI ?_ | refine W_retI ?_ | refine W_exitI ?_ | refine then_normalI ?_ | refine then_retI ?_ | refine then_exitI ?_ | refine inBlock_normalI ?_ | refine inBlock_retI ?_ | refine inBlock_exitI ?_ | refine inBlock_exitN (by decide) ?_)
    | ((with_reducible first | refine bodyQ_normal0 ?_ | refine bodyQ_normal1 ?_ | refine bodyQ_normal2 ?_ | refine bodyQ_normal3 ?_ | refine bodyQ_normal4 ?_ | refine bodyQ_ret0 ?_ | refine bodyQ_ret1 ?_ | refine bodyQ_ret2 ?_ | refine bodyQ_ret3 ?_ | refine bodyQ_ret4 ?_); (try simp only [EVB, Nat.reduceEqDiff, reduceIte]))
    | (with_reducible first | refine bodyQ_retC1 fun cR hcR => ?_ | refine bodyQ_retC2 fun cR hcR => ?_ | refine bodyQ_retC3 fun cR hcR => ?_ | refine bodyQ_retC5 fun cR hcR => ?_)
    | ((with_reducible refine hcR _ ?_); (try simp only [EVB, Nat.reduceEqDiff, reduceIte]))
    | ((with_reducible show C _ _ _ _ _ _); first | (refine RText_C h (by omega) ?_))
    | (with_reducible refine Cont.use (by assumption) ?_)
    | (with_reducible first | refine hcA ?_ | refine hcB ?_)
    | ((with_reducible first | refine W_condG fun cA cB hcA hcB => ?_ | refine W_regionI ?_ | show O _ _ _ _ _ _ _ _ | show OK _ _ _ _ _ _ _ _ _ | show OKF _ _ _ _ _ _ _ _ _ _ | show OKT _ _ _ _ _ _ _ _ _ _ _ _ | show _ ∧ _ | show CG _ _ _ | show CB _ _ _ | show RL _ _); simp (disch := first | ((with_reducible show isStop _ = false); rfl) | ((with_reducible show isP _ = true); rfl) | ((with_reducible show (isStop _ || isP _) = false); rfl) | assumption | (simp only [GSB, Nat.reduceEqDiff, reduceIte]; done) | omega | (with_reducible decide) | (simp only [DSB, Go.Proofs.YtdmbgbennlnpcaaDoorAbs.oneC, Go.Proofs.YtdmbgbennlnpcaaDoorAbs.St.next_withLow, Nat.reduceAdd, Nat.reduceLeDiff] <;> omega) | fail) only [↓DN, ↓reduceIte, UP, CGC, Int.reduceEq, Int.reduceLT, Int.reduceLE, Nat.reduceEqDiff, Nat.reduceAdd, Nat.reduceMul, Nat.reduceSub, Int.reduceToNat, Nat.reduceLeDiff, PF, isStop, isP, goInt, beq_self_eq_true, decide_true, decide_false, Int.toNat_natCast, Int.natCast_zero, hS8, g8, gp8])
    | ((with_reducible refine CB_intro (fun ht => hcA ?_) (fun ht => hcB ?_)) <;> (first | (simp only [Bool.true_eq_false, Bool.false_eq_true] at ht; done) | ((try simp only [Bool.not_eq_true', Bool.not_eq_false'] at ht); (try simp only [ht]); (try simp only [HTN] at ht); (try (exfalso; omega)))))
    | ((with_reducible refine W_regionI ?_); simp only [List.append_eq, List.cons_append, List.nil_append])
    | (with_reducible refine O_splitG fun cA cB hcA hcB => ?_))
    have gp : ∀ B, aread (S8.push B) ⟨S5.next, 0, some 4⟩ (2 * 2) = some (fldv (locA N)) := fun B => by
      unfold aread
      simp only [St.get_push_ne S8 B (show S5.next ≠ S8.next by omega), gl8]
      rw [if_pos ⟨fun _ => ⟨Nat.zero_le _, by decide⟩, (show 0 + 2 * 2 ≤ (fldv (locA N)).length by rw [hfl]; simp)⟩]
      rfl
    have gx : ∀ B : Blk, B = ⟨fldv locC, 50, true, 0⟩ → asrc Tryd.prog (S8.push B) 22 2 (.slice (some ⟨S8.next, 0, some 2⟩) 1 1) = some (1, fldv locC) := fun B hB => by
      subst hB
      exact asrc_own_lit (m := 0) u22 (St.get_push_self _ _) (Nat.zero_le _) rfl (fldv_one _)
    refine O_litF (P := Tryd.prog) (elem := 50) (size := 2) (bytes := 32) (n := 2) (m := 1) (b := S5.next) (o := 0) (L := 4) (c := 2) (xs := fldv (locA N)) (ys := fldv locC) u22 sz50 by50 ze50 ⟨by decide, by decide, rfl⟩ (by simp only [EVB, Nat.reduceEqDiff, reduceIte]) (by decide) (by decide) (by decide) (gp _) rfl (fldv_one _) (by simp only [EVB, Nat.reduceEqDiff, reduceIte]; exact gx _ rfl) (by decide) ⟨rfl, fldv_one _⟩ (by decide) fun v9 S9 hO9 k9 hN9 => ?_
    have k89 : Kept S8 S9 none := (Kept.push _ none).trans k9.kept
    have l9 := k89.1
    have g9 := k89.get (by omega) g8
    have gp9 := k89.get (by omega) gp8
    have hF9 : RF S9 v9 (locF (t : Int) true) := by
      rw [hF1]
      exact RF.own (l := locA N ++ locC) (by rw [show fldv (locA N ++ locC) = fldv (locA N) ++ fldv locC from rfl]; exact hO9)
    obtain ⟨va, vk, ev⟩ := own_slice hO9
    subst ev
    have hv9 : blkOf (Value.slice va (2 + 1) vk) ≠ some (S5.next + 1) := fun q => by have := hN9 _ q; rw [St.next_push] at this; omega
    have fin1 := fun B1 B2 => (fin S9 _ k89 hF9 (fun b hb => by have := hN9 b hb; rw [St.next_push] at this; omega) B1 B2).2 hv9
    repeat' (first
    | (with_reducible first | refine W_pushC fun K hK => ?_ | refine W_blockI ?_ | refine W_scopeI ?_ | refine W_labelI ?_ | refine W_skipI ?_ | refine W_retI ?_ | refine W_exitI ?_ | refine then_normalI ?_ | refine then_retI ?_ | refine then_exitI ?_ | refine inBlock_normalI ?_ | refine inBlock_retI ?_ | refine inBlock_exitI ?_ | refine inBlock_exitN (by decide) ?_)
    | ((with_reducible first | refine bodyQ_normal0 ?_ | refine bodyQ_normal1 ?_ | refine bodyQ_normal2 ?_ | refine bodyQ_normal3 ?_ | refine bodyQ_normal4 ?_ | refine bodyQ_ret0 ?_ | refine bodyQ_ret1 ?_ | refine bodyQ_ret2 ?_ | refine bodyQ_ret3 ?_ | refine bodyQ_ret4 ?_); (try simp only [EVB, Nat.reduceEqDiff, reduceIte]))
    | (with_reducible first | refine bodyQ_retC1 fun cR hcR => ?_ | refine bodyQ_retC2 fun cR hcR => ?_ | refine bodyQ_retC3 fun cR hcR => ?_ | refine bodyQ_retC5 fun cR hcR => ?_)
    | ((with_reducible refine hcR _ ?_); (try simp only [EVB, Nat.reduceEqDiff, reduceIte]))
    | (with_reducible refine Cont.use (by assumption) ?_)
    | (with_reducible first | refine hcA ?_ | refine hcB ?_)
    | ((with_reducible first | refine W_condG fun cA cB hcA hcB => ?_ | refine W_regionI ?_ | show O _ _ _ _ _ _ _ _ | show OK _ _ _ _ _ _ _ _ _ | show OKF _ _ _ _ _ _ _ _ _ _ | show OKT _ _ _ _ _ _ _ _ _ _ _ _ | show _ ∧ _ | show CG _ _ _ | show CB _ _ _ | show RL _ _); simp (disch := first | ((with_reducible show isStop _ = false); rfl) | ((with_reducible show isP _ = true); rfl) | ((with_reducible show (isStop _ || isP _) = false); rfl) | assumption | (simp only [GSB, Nat.reduceEqDiff, reduceIte]; done) | omega | (with_reducible decide) | (simp only [DSB, Go.Proofs.YtdmbgbennlnpcaaDoorAbs.oneC, Go.Proofs.YtdmbgbennlnpcaaDoorAbs.St.next_withLow, Nat.reduceAdd, Nat.reduceLeDiff] <;> omega) | fail) only [↓DN, ↓reduceIte, UP, CGC, Int.reduceEq, Int.reduceLT, Int.reduceLE, Nat.reduceEqDiff, Nat.reduceAdd, Nat.reduceMul, Nat.reduceSub, Int.reduceToNat, Nat.reduceLeDiff, PF, isStop, isP, goInt, beq_self_eq_true, decide_true, decide_false, Int.toNat_natCast, Int.natCast_zero, g9, gp9])
    | ((with_reducible refine CB_intro (fun ht => hcA ?_) (fun ht => hcB ?_)) <;> (first | (simp only [Bool.true_eq_false, Bool.false_eq_true] at ht; done) | ((try simp only [Bool.not_eq_true', Bool.not_eq_false'] at ht); (try simp only [ht]); (try simp only [HTN] at ht); (try (exfalso; omega)))))
    | ((with_reducible refine W_regionI ?_); simp only [List.append_eq, List.cons_append, List.nil_append])
    | (with_reducible refine O_splitG fun cA cB hcA hcB => ?_)
    | (exact fin1 _ _))
end
end Go.Proofs.YtdmbgbennlnpcaaDoor.Q
namespace Go.Proofs.YtdmbgbennlnpcaaDoor.Q
open Go Go.Proofs.YtdmbgbennlnpcaaDoorAbs Go.Proofs
set_option linter.unusedVariables false
set_option linter.unusedSimpArgs false
set_option maxRecDepth 100000
set_option maxHeartbeats 4000000
attribute [local irreducible] Go.Proofs.YtdmbgbennlnpcaaDoorAbs.O Go.Proofs.YtdmbgbennlnpcaaDoorAbs.W Go.Proofs.YtdmbgbennlnpcaaDoorAbs.C Go.Proofs.YtdmbgbennlnpcaaDoorAbs.OK Go.Proofs.YtdmbgbennlnpcaaDoorAbs.OKF Go.Proofs.YtdmbgbennlnpcaaDoorAbs.OKT Go.Proofs.YtdmbgbennlnpcaaDoorAbs.then_ Go.Proofs.YtdmbgbennlnpcaaDoorAbs.inBlock_ Go.Proofs.YtdmbgbennlnpcaaDoorAbs.bodyQ Go.Proofs.YtdmbgbennlnpcaaDoorAbs.Cont
section
variable {I : Prims} {S S0 : St} {c : Int} {Q : Value → St → Prop} {e : Env}
theorem numN_C (h : HP I) (hQ : Q (.int .i64 0) S) : C Tryd.prog I 14 #[.nilIface] S Q := num_C h (e := none) hQ
theorem numS_C (h : HP I) {k : Int} (hQ : Q (.int .i64 k) S) : C Tryd.prog I 14 #[.iface 68 (.int .i64 k)] S Q := num_C h (e := some k) hQ
theorem locals_walk (h : HW I) (hPG : PG S) {status m : Int} {last : Bool} (hQ : ∀ S', Q (.bool true) S') : C Tryd.prog I 3 #[.int .i64 status, .int .i64 m, .bool last] S Q := by
  refine C_body (rs := [.tmp 6]) (h.no 3 (by decide)) Tryd.func3 rfl rfl ok3 ?_
  obtain ⟨sz24, u9, sz3, u3, sz9, sz22, u22, u25, sz5, u5, sz38, u4, sz49, sz50, u58, u70, sz85, sz98, u103, sz25, u114, sz113, u88, sz27, sz108, u108, sz4, sz96, u96, u2, sz123, u123, sz130, u130, u139, sz103, u140, sz141, u142, u141, u21⟩ := UF
  have bs := beq_self_eq_true (reasonF status).toList
  by_cases hok : okLoc status m
  · repeat' (first
    | (with_reducible first | refine W_pushC fun K hK => ?_ | refine W_blockI ?_ | refine W_scopeI ?_ | refine W_labelI ?_ | refine W_skipI ?_ | refine W_retI ?_ | refine W_exitI ?_ | refine then_normalI ?_ | refine then_retI ?_ | refine then_exitI ?_ | refine inBlock_normalI ?_ | refine inBlock_retI ?_ | refine inBlock_exitI ?_ | refine inBlock_exitN (by decide) ?_)
    | ((with_reducible first | refine bodyQ_normal0 ?_ | refine bodyQ_normal1 ?_ | refine bodyQ_normal2 ?_ | refine bodyQ_normal3 ?_ | refine bodyQ_normal4 ?_ | refine bodyQ_ret0 ?_ | refine bodyQ_ret1 ?_ | refine bodyQ_ret2 ?_ | refine bodyQ_ret3 ?_ | refine bodyQ_ret4 ?_); (try simp only [EVB, Nat.reduceEqDiff, reduceIte]))
    | (with_reducible refine Cont.use (by assumption) ?_)
    | (with_reducible first | refine hcA ?_ | refine hcB ?_)
    | ((with_reducible first | refine W_condG fun cA cB hcA hcB => ?_ | refine W_regionI ?_ | show O _ _ _ _ _ _ _ _ | show OK _ _ _ _ _ _ _ _ _ | show OKF _ _ _ _ _ _ _ _ _ _ | show OKT _ _ _ _ _ _ _ _ _ _ _ _ | show _ ∧ _ | show CG _ _ _ | show CB _ _ _); simp (disch := first | ((with_reducible show isStop _ = false); rfl) | ((with_reducible show isP _ = true); rfl) | ((with_reducible show (isStop _ || isP _) = false); rfl) | assumption | (simp only [GSB, Nat.reduceEqDiff, reduceIte]; done) | omega | (with_reducible decide) | (simp only [DSB, Go.Proofs.YtdmbgbennlnpcaaDoorAbs.oneC, Go.Proofs.YtdmbgbennlnpcaaDoorAbs.St.next_withLow, Nat.reduceAdd, Nat.reduceLeDiff] <;> omega) | fail) only [↓DN, ↓reduceIte, UP, CGB, Int.reduceEq, Int.reduceLT, Int.reduceLE, Nat.reduceEqDiff, Nat.reduceAdd, Nat.reduceMul, Nat.reduceSub, Int.reduceToNat, Nat.reduceLeDiff, PF, isStop, isP, goInt, beq_self_eq_true, decide_true, decide_false, Int.toNat_natCast, Int.natCast_zero, nn_eq, nn_ne, errW0, errW1])
    | ((with_reducible refine CB_intro (fun ht => hcA ?_) (fun ht => hcB ?_)) <;> (first | (simp only [Bool.true_eq_false, Bool.false_eq_true] at ht; done) | ((try simp only [Bool.not_eq_true', Bool.not_eq_false'] at ht); (try simp only [ht]); (try simp only [HTN] at ht); (try (exfalso; omega)))))
    | ((with_reducible refine W_regionI ?_); simp only [List.append_eq, List.cons_append, List.nil_append])
    | (with_reducible refine O_splitG fun cA cB hcA hcB => ?_))
    refine Local_C h.toHP hPG (fun _ S1 vl1 vb1 k1 hF1 hO1 => ?_) (fun q => absurd hok q)
    have hF1' := hF1
    obtain ⟨a1, c1, e1, -⟩ := hF1'
    subst e1
    generalize hl : locF status last = l at *
    generalize hx : bodyL status = xs at *
    obtain ⟨S2, hS2⟩ : ∃ S2, (S1.push ⟨[.int .i64 0, .string ⟨#[]⟩, .int .i64 0, .slice none 0 0], 24, true, 0⟩).upd S1.next ⟨[.int .i64 status, .string (reasonF status), .int .i64 m, .slice a1 l.length c1], 24, true, 4⟩ = S2 := ⟨_, rfl⟩
    have k12 : Kept S1 S2 none := by rw [← hS2]; exact Kept.upd (Kept.push _ none) (Nat.le_refl _) _
    have g2 : S2.get S1.next = some ⟨[.int .i64 status, .string (reasonF status), .int .i64 m, .slice a1 l.length c1], 24, true, 4⟩ := by rw [← hS2]; exact St.get_upd_self _ _ _
    have n2 : S2.next = S1.next + 1 := by rw [← hS2]; rfl
    repeat' (first
    | (with_reducible first | refine W_pushC fun K hK => ?_ | refine W_blockI ?_ | refine W_scopeI ?_ | refine W_labelI ?_ | refine W_skipI ?_ | refine W_retI ?_ | refine W_exitI ?_ | refine then_normalI ?_ | refine then_retI ?_ | refine then_exitI ?_ | refine inBlock_normalI ?_ | refine inBlock_retI ?_ | refine inBlock_exitI ?_ | refine inBlock_exitN (by decide) ?_)
    | ((with_reducible first | refine bodyQ_normal0 ?_ | refine bodyQ_normal1 ?_ | refine bodyQ_normal2 ?_ | refine bodyQ_normal3 ?_ | refine bodyQ_normal4 ?_ | refine bodyQ_ret0 ?_ | refine bodyQ_ret1 ?_ | refine bodyQ_ret2 ?_ | refine bodyQ_ret3 ?_ | refine bodyQ_ret4 ?_); (try simp only [EVB, Nat.reduceEqDiff, reduceIte]))
    | (with_reducible refine Cont.use (by assumption) ?_)
    | (with_reducible first | refine hcA ?_ | refine hcB ?_)
    | ((with_reducible first | refine W_condG fun cA cB hcA hcB => ?_ | refine W_regionI ?_ | show O _ _ _ _ _ _ _ _ | show OK _ _ _ _ _ _ _ _ _ | show OKF _ _ _ _ _ _ _ _ _ _ | show OKT _ _ _ _ _ _ _ _ _ _ _ _ | show _ ∧ _ | show CG _ _ _ | show CB _ _ _); simp (disch := first | ((with_reducible show isStop _ = false); rfl) | ((with_reducible show isP _ = true); rfl) | ((with_reducible show (isStop _ || isP _) = false); rfl) | assumption | (simp only [GSB, Nat.reduceEqDiff, reduceIte]; done) | omega | (with_reducible decide) | (simp only [DSB, Go.Proofs.YtdmbgbennlnpcaaDoorAbs.oneC, Go.Proofs.YtdmbgbennlnpcaaDoorAbs.St.next_withLow, Nat.reduceAdd, Nat.reduceLeDiff] <;> omega) | fail) only [↓DN, ↓reduceIte, UP, CGB, Int.reduceEq, Int.reduceLT, Int.reduceLE, Nat.reduceEqDiff, Nat.reduceAdd, Nat.reduceMul, Nat.reduceSub, Int.reduceToNat, Nat.reduceLeDiff, PF, isStop, isP, goInt, beq_self_eq_true, decide_true, decide_false, Int.toNat_natCast, Int.natCast_zero, nn_eq, nn_ne, errW0, errW1, hS2])
    | ((with_reducible refine CB_intro (fun ht => hcA ?_) (fun ht => hcB ?_)) <;> (first | (simp only [Bool.true_eq_false, Bool.false_eq_true] at ht; done) | ((try simp only [Bool.not_eq_true', Bool.not_eq_false'] at ht); (try simp only [ht]); (try simp only [HTN] at ht); (try (exfalso; omega)))))
    | ((with_reducible refine W_regionI ?_); simp only [List.append_eq, List.cons_append, List.nil_append])
    | (with_reducible refine O_splitG fun cA cB hcA hcB => ?_))
    refine RLocal_C h.toHP (fun _ S3 vl3 vb3 k3 hF3 hO3 => ?_) (fun q => absurd hok q)
    rw [hl] at hF3
    rw [hx] at hO3
    have hF3' := hF3
    obtain ⟨a3, c3, e3, -⟩ := hF3'
    subst e3
    have l3 := k3.1
    have g3 := k3.get (by omega) g2
    obtain ⟨S4, hS4⟩ : ∃ S4, (S3.push ⟨[.int .i64 0, .string ⟨#[]⟩, .int .i64 0, .slice none 0 0], 24, true, 0⟩).upd S3.next ⟨[.int .i64 status, .string (reasonF status), .int .i64 m, .slice a3 l.length c3], 24, true, 4⟩ = S4 := ⟨_, rfl⟩
    have k34 : Kept S3 S4 none := by rw [← hS4]; exact Kept.upd (Kept.push _ none) (Nat.le_refl _) _
    have g4 : S4.get S3.next = some ⟨[.int .i64 status, .string (reasonF status), .int .i64 m, .slice a3 l.length c3], 24, true, 4⟩ := by rw [← hS4]; exact St.get_upd_self _ _ _
    have n4 : S4.next = S3.next + 1 := by rw [← hS4]; rfl
    have gq4 := k34.get (by omega) g3
    repeat' (first
    | (with_reducible first | refine W_pushC fun K hK => ?_ | refine W_blockI ?_ | refine W_scopeI ?_ | refine W_labelI ?_ | refine W_skipI ?_ | refine W_retI ?_ | refine W_exitI ?_ | refine then_normalI ?_ | refine then_retI ?_ | refine then_exitI ?_ | refine inBlock_normalI ?_ | refine inBlock_retI ?_ | refine inBlock_exitI ?_ | refine inBlock_exitN (by decide) ?_)
    | ((with_reducible first | refine bodyQ_normal0 ?_ | refine bodyQ_normal1 ?_ | refine bodyQ_normal2 ?_ | refine bodyQ_normal3 ?_ | refine bodyQ_normal4 ?_ | refine bodyQ_ret0 ?_ | refine bodyQ_ret1 ?_ | refine bodyQ_ret2 ?_ | refine bodyQ_ret3 ?_ | refine bodyQ_ret4 ?_); (try simp only [EVB, Nat.reduceEqDiff, reduceIte]))
    | ((with_reducible show C _ _ _ _ _ _); first | (refine Reason_C h.toHP ?_))
    | (with_reducible refine Cont.use (by assumption) ?_)
    | (with_reducible first | refine hcA ?_ | refine hcB ?_)
    | ((with_reducible first | refine W_condG fun cA cB hcA hcB => ?_ | refine W_regionI ?_ | show O _ _ _ _ _ _ _ _ | show OK _ _ _ _ _ _ _ _ _ | show OKF _ _ _ _ _ _ _ _ _ _ | show OKT _ _ _ _ _ _ _ _ _ _ _ _ | show _ ∧ _ | show CG _ _ _ | show CB _ _ _); simp (disch := first | ((with_reducible show isStop _ = false); rfl) | ((with_reducible show isP _ = true); rfl) | ((with_reducible show (isStop _ || isP _) = false); rfl) | assumption | (simp only [GSB, Nat.reduceEqDiff, reduceIte]; done) | omega | (with_reducible decide) | (simp only [DSB, Go.Proofs.YtdmbgbennlnpcaaDoorAbs.oneC, Go.Proofs.YtdmbgbennlnpcaaDoorAbs.St.next_withLow, Nat.reduceAdd, Nat.reduceLeDiff] <;> omega) | fail) only [↓DN, ↓reduceIte, UP, CGB, Int.reduceEq, Int.reduceLT, Int.reduceLE, Nat.reduceEqDiff, Nat.reduceAdd, Nat.reduceMul, Nat.reduceSub, Int.reduceToNat, Nat.reduceLeDiff, PF, isStop, isP, goInt, beq_self_eq_true, decide_true, decide_false, Int.toNat_natCast, Int.natCast_zero, nn_eq, nn_ne, errW0, errW1, hS4])
    | ((with_reducible refine CB_intro (fun ht => hcA ?_) (fun ht => hcB ?_)) <;> (first | (simp only [Bool.true_eq_false, Bool.false_eq_true] at ht; done) | ((try simp only [Bool.not_eq_true', Bool.not_eq_false'] at ht); (try simp only [ht]); (try simp only [HTN] at ht); (try (exfalso; omega)))))
    | ((with_reducible refine W_regionI ?_); simp only [List.append_eq, List.cons_append, List.nil_append])
    | (with_reducible refine O_splitG fun cA cB hcA hcB => ?_))
    refine RReason_L h.toHP fun S5 j5 => ?_
    have k5 := j5.kept
    have k15 := k12.trans (k3.trans (k34.trans k5))
    have k35 := k34.trans k5
    have g5 := k5.get (by omega) g4
    have gq5 := k5.get (by omega) gq4
    have w1 := conv_any (hO1.kept k15 (.inl rfl))
    have w3 := conv_any (hO3.kept k35 (.inl rfl))
    have bx := beq_self_eq_true (⟨xs.toArray⟩ : ByteArray).toList
    have hP5 := hPG.kept (k1.trans k15)
    have dl : decide (l = l) = true := decide_eq_true rfl
    have hll : l.length ≤ 1048576 := by
      rw [← hl]; cases last <;> (show _ ≤ _; simp [locF, locA, locC])
    repeat' (first
    | (with_reducible first | refine W_pushC fun K hK => ?_ | refine W_blockI ?_ | refine W_scopeI ?_ | refine W_labelI ?_ | refine W_skipI ?_ | refine W_retI ?_ | refine W_exitI ?_ | refine then_normalI ?_ | refine then_retI ?_ | refine then_exitI ?_ | refine inBlock_normalI ?_ | refine inBlock_retI ?_ | refine inBlock_exitI ?_ | refine inBlock_exitN (by decide) ?_)
    | ((with_reducible first | refine bodyQ_normal0 ?_ | refine bodyQ_normal1 ?_ | refine bodyQ_normal2 ?_ | refine bodyQ_normal3 ?_ | refine bodyQ_normal4 ?_ | refine bodyQ_ret0 ?_ | refine bodyQ_ret1 ?_ | refine bodyQ_ret2 ?_ | refine bodyQ_ret3 ?_ | refine bodyQ_ret4 ?_); (try simp only [EVB, Nat.reduceEqDiff, reduceIte]))
    | ((with_reducible show C _ _ _ _ _ _); first | ((refine fields_C h.toHP (hF1.kept k15) (hF3.kept k35) hll hll ?_)) | (refine numN_C h.toHP ?_) | (refine h.works _ _ hP5 ?_))
    | (with_reducible refine Cont.use (by assumption) ?_)
    | (with_reducible first | refine hcA ?_ | refine hcB ?_)
    | ((with_reducible first | refine W_condG fun cA cB hcA hcB => ?_ | refine W_regionI ?_ | show O _ _ _ _ _ _ _ _ | show OK _ _ _ _ _ _ _ _ _ | show OKF _ _ _ _ _ _ _ _ _ _ | show OKT _ _ _ _ _ _ _ _ _ _ _ _ | show _ ∧ _ | show CG _ _ _ | show CB _ _ _); simp (disch := first | ((with_reducible show isStop _ = false); rfl) | ((with_reducible show isP _ = true); rfl) | ((with_reducible show (isStop _ || isP _) = false); rfl) | assumption | (simp only [GSB, Nat.reduceEqDiff, reduceIte]; done) | omega | (with_reducible decide) | (simp only [DSB, Go.Proofs.YtdmbgbennlnpcaaDoorAbs.oneC, Go.Proofs.YtdmbgbennlnpcaaDoorAbs.St.next_withLow, Nat.reduceAdd, Nat.reduceLeDiff] <;> omega) | fail) only [↓DN, ↓reduceIte, UP, CGB, Int.reduceEq, Int.reduceLT, Int.reduceLE, Nat.reduceEqDiff, Nat.reduceAdd, Nat.reduceMul, Nat.reduceSub, Int.reduceToNat, Nat.reduceLeDiff, PF, isStop, isP, goInt, beq_self_eq_true, decide_true, decide_false, Int.toNat_natCast, Int.natCast_zero, nn_eq, nn_ne, errW0, errW1, g5, gq5, bs, w1, w3, bx, dl])
    | ((with_reducible refine CB_intro (fun ht => hcA ?_) (fun ht => hcB ?_)) <;> (first | (simp only [Bool.true_eq_false, Bool.false_eq_true] at ht; done) | ((try simp only [Bool.not_eq_true', Bool.not_eq_false'] at ht); (try simp only [ht]); (try simp only [HTN] at ht); (try (exfalso; omega)))))
    | ((with_reducible refine W_regionI ?_); simp only [List.append_eq, List.cons_append, List.nil_append])
    | (with_reducible refine O_splitG fun cA cB hcA hcB => ?_)
    | (exact hQ _))
  · repeat' (first
    | (with_reducible first | refine W_pushC fun K hK => ?_ | refine W_blockI ?_ | refine W_scopeI ?_ | refine W_labelI ?_ | refine W_skipI ?_ | refine W_retI ?_ | refine W_exitI ?_ | refine then_normalI ?_ | refine then_retI ?_ | refine then_exitI ?_ | refine inBlock_normalI ?_ | refine inBlock_retI ?_ | refine inBlock_exitI ?_ | refine inBlock_exitN (by decide) ?_)
    | ((with_reducible first | refine bodyQ_normal0 ?_ | refine bodyQ_normal1 ?_ | refine bodyQ_normal2 ?_ | refine bodyQ_normal3 ?_ | refine bodyQ_normal4 ?_ | refine bodyQ_ret0 ?_ | refine bodyQ_ret1 ?_ | refine bodyQ_ret2 ?_ | refine bodyQ_ret3 ?_ | refine bodyQ_ret4 ?_); (try simp only [EVB, Nat.reduceEqDiff, reduceIte]))
    | (with_reducible refine Cont.use (by assumption) ?_)
    | (with_reducible first | refine hcA ?_ | refine hcB ?_)
    | ((with_reducible first | refine W_condG fun cA cB hcA hcB => ?_ | refine W_regionI ?_ | show O _ _ _ _ _ _ _ _ | show OK _ _ _ _ _ _ _ _ _ | show OKF _ _ _ _ _ _ _ _ _ _ | show OKT _ _ _ _ _ _ _ _ _ _ _ _ | show _ ∧ _ | show CG _ _ _ | show CB _ _ _); simp (disch := first | ((with_reducible show isStop _ = false); rfl) | ((with_reducible show isP _ = true); rfl) | ((with_reducible show (isStop _ || isP _) = false); rfl) | assumption | (simp only [GSB, Nat.reduceEqDiff, reduceIte]; done) | omega | (with_reducible decide) | (simp only [DSB, Go.Proofs.YtdmbgbennlnpcaaDoorAbs.oneC, Go.Proofs.YtdmbgbennlnpcaaDoorAbs.St.next_withLow, Nat.reduceAdd, Nat.reduceLeDiff] <;> omega) | fail) only [↓DN, ↓reduceIte, UP, CGB, Int.reduceEq, Int.reduceLT, Int.reduceLE, Nat.reduceEqDiff, Nat.reduceAdd, Nat.reduceMul, Nat.reduceSub, Int.reduceToNat, Nat.reduceLeDiff, PF, isStop, isP, goInt, beq_self_eq_true, decide_true, decide_false, Int.toNat_natCast, Int.natCast_zero, nn_eq, nn_ne, errW0, errW1])
    | ((with_reducible refine CB_intro (fun ht => hcA ?_) (fun ht => hcB ?_)) <;> (first | (simp only [Bool.true_eq_false, Bool.false_eq_true] at ht; done) | ((try simp only [Bool.not_eq_true', Bool.not_eq_false'] at ht); (try simp only [ht]); (try simp only [HTN] at ht); (try (exfalso; omega)))))
    | ((with_reducible refine W_regionI ?_); simp only [List.append_eq, List.cons_append, List.nil_append])
    | (with_reducible refine O_splitG fun cA cB hcA hcB => ?_))
    refine Local_C h.toHP hPG (fun q => absurd q hok) (fun _ S1 k1 => ?_)
    obtain ⟨S2, hS2⟩ : ∃ S2, (S1.push ⟨[.int .i64 0, .string ⟨#[]⟩, .int .i64 0, .slice none 0 0], 24, true, 0⟩).upd S1.next ⟨[.int .i64 0, .string ⟨#[]⟩, .int .i64 0, .slice none 0 0], 24, true, 4⟩ = S2 := ⟨_, rfl⟩
    have k12 : Kept S1 S2 none := by rw [← hS2]; exact Kept.upd (Kept.push _ none) (Nat.le_refl _) _
    have g2 : S2.get S1.next = some ⟨[.int .i64 0, .string ⟨#[]⟩, .int .i64 0, .slice none 0 0], 24, true, 4⟩ := by rw [← hS2]; exact St.get_upd_self _ _ _
    have n2 : S2.next = S1.next + 1 := by rw [← hS2]; rfl
    repeat' (first
    | (with_reducible first | refine W_pushC fun K hK => ?_ | refine W_blockI ?_ | refine W_scopeI ?_ | refine W_labelI ?_ | refine W_skipI ?_ | refine W_retI ?_ | refine W_exitI ?_ | refine then_normalI ?_ | refine then_retI ?_ | refine then_exitI ?_ | refine inBlock_normalI ?_ | refine inBlock_retI ?_ | refine inBlock_exitI ?_ | refine inBlock_exitN (by decide) ?_)
    | ((with_reducible first | refine bodyQ_normal0 ?_ | refine bodyQ_normal1 ?_ | refine bodyQ_normal2 ?_ | refine bodyQ_normal3 ?_ | refine bodyQ_normal4 ?_ | refine bodyQ_ret0 ?_ | refine bodyQ_ret1 ?_ | refine bodyQ_ret2 ?_ | refine bodyQ_ret3 ?_ | refine bodyQ_ret4 ?_); (try simp only [EVB, Nat.reduceEqDiff, reduceIte]))
    | (with_reducible refine Cont.use (by assumption) ?_)
    | (with_reducible first | refine hcA ?_ | refine hcB ?_)
    | ((with_reducible first | refine W_condG fun cA cB hcA hcB => ?_ | refine W_regionI ?_ | show O _ _ _ _ _ _ _ _ | show OK _ _ _ _ _ _ _ _ _ | show OKF _ _ _ _ _ _ _ _ _ _ | show OKT _ _ _ _ _ _ _ _ _ _ _ _ | show _ ∧ _ | show CG _ _ _ | show CB _ _ _); simp (disch := first | ((with_reducible show isStop _ = false); rfl) | ((with_reducible show isP _ = true); rfl) | ((with_reducible show (isStop _ || isP _) = false); rfl) | assumption | (simp only [GSB, Nat.reduceEqDiff, reduceIte]; done) | omega | (with_reducible decide) | (simp only [DSB, Go.Proofs.YtdmbgbennlnpcaaDoorAbs.oneC, Go.Proofs.YtdmbgbennlnpcaaDoorAbs.St.next_withLow, Nat.reduceAdd, Nat.reduceLeDiff] <;> omega) | fail) only [↓DN, ↓reduceIte, UP, CGB, Int.reduceEq, Int.reduceLT, Int.reduceLE, Nat.reduceEqDiff, Nat.reduceAdd, Nat.reduceMul, Nat.reduceSub, Int.reduceToNat, Nat.reduceLeDiff, PF, isStop, isP, goInt, beq_self_eq_true, decide_true, decide_false, Int.toNat_natCast, Int.natCast_zero, nn_eq, nn_ne, errW0, errW1, hS2])
    | ((with_reducible refine CB_intro (fun ht => hcA ?_) (fun ht => hcB ?_)) <;> (first | (simp only [Bool.true_eq_false, Bool.false_eq_true] at ht; done) | ((try simp only [Bool.not_eq_true', Bool.not_eq_false'] at ht); (try simp only [ht]); (try simp only [HTN] at ht); (try (exfalso; omega)))))
    | ((with_reducible refine W_regionI ?_); simp only [List.append_eq, List.cons_append, List.nil_append])
    | (with_reducible refine O_splitG fun cA cB hcA hcB => ?_))
    refine RLocal_C h.toHP (fun q => absurd q hok) (fun _ S3 k3 => ?_)
    have l3 := k3.1
    have g3 := k3.get (by omega) g2
    obtain ⟨S4, hS4⟩ : ∃ S4, (S3.push ⟨[.int .i64 0, .string ⟨#[]⟩, .int .i64 0, .slice none 0 0], 24, true, 0⟩).upd S3.next ⟨[.int .i64 0, .string ⟨#[]⟩, .int .i64 0, .slice none 0 0], 24, true, 4⟩ = S4 := ⟨_, rfl⟩
    have k34 : Kept S3 S4 none := by rw [← hS4]; exact Kept.upd (Kept.push _ none) (Nat.le_refl _) _
    have g4 : S4.get S3.next = some ⟨[.int .i64 0, .string ⟨#[]⟩, .int .i64 0, .slice none 0 0], 24, true, 4⟩ := by rw [← hS4]; exact St.get_upd_self _ _ _
    have n4 : S4.next = S3.next + 1 := by rw [← hS4]; rfl
    have gq4 := k34.get (by omega) g3
    repeat' (first
    | (with_reducible first | refine W_pushC fun K hK => ?_ | refine W_blockI ?_ | refine W_scopeI ?_ | refine W_labelI ?_ | refine W_skipI ?_ | refine W_retI ?_ | refine W_exitI ?_ | refine then_normalI ?_ | refine then_retI ?_ | refine then_exitI ?_ | refine inBlock_normalI ?_ | refine inBlock_retI ?_ | refine inBlock_exitI ?_ | refine inBlock_exitN (by decide) ?_)
    | ((with_reducible first | refine bodyQ_normal0 ?_ | refine bodyQ_normal1 ?_ | refine bodyQ_normal2 ?_ | refine bodyQ_normal3 ?_ | refine bodyQ_normal4 ?_ | refine bodyQ_ret0 ?_ | refine bodyQ_ret1 ?_ | refine bodyQ_ret2 ?_ | refine bodyQ_ret3 ?_ | refine bodyQ_ret4 ?_); (try simp only [EVB, Nat.reduceEqDiff, reduceIte]))
    | ((with_reducible show C _ _ _ _ _ _); first | (refine Reason_C h.toHP ?_))
    | (with_reducible refine Cont.use (by assumption) ?_)
    | (with_reducible first | refine hcA ?_ | refine hcB ?_)
    | ((with_reducible first | refine W_condG fun cA cB hcA hcB => ?_ | refine W_regionI ?_ | show O _ _ _ _ _ _ _ _ | show OK _ _ _ _ _ _ _ _ _ | show OKF _ _ _ _ _ _ _ _ _ _ | show OKT _ _ _ _ _ _ _ _ _ _ _ _ | show _ ∧ _ | show CG _ _ _ | show CB _ _ _); simp (disch := first | ((with_reducible show isStop _ = false); rfl) | ((with_reducible show isP _ = true); rfl) | ((with_reducible show (isStop _ || isP _) = false); rfl) | assumption | (simp only [GSB, Nat.reduceEqDiff, reduceIte]; done) | omega | (with_reducible decide) | (simp only [DSB, Go.Proofs.YtdmbgbennlnpcaaDoorAbs.oneC, Go.Proofs.YtdmbgbennlnpcaaDoorAbs.St.next_withLow, Nat.reduceAdd, Nat.reduceLeDiff] <;> omega) | fail) only [↓DN, ↓reduceIte, UP, CGB, Int.reduceEq, Int.reduceLT, Int.reduceLE, Nat.reduceEqDiff, Nat.reduceAdd, Nat.reduceMul, Nat.reduceSub, Int.reduceToNat, Nat.reduceLeDiff, PF, isStop, isP, goInt, beq_self_eq_true, decide_true, decide_false, Int.toNat_natCast, Int.natCast_zero, nn_eq, nn_ne, errW0, errW1, hS4])
    | ((with_reducible refine CB_intro (fun ht => hcA ?_) (fun ht => hcB ?_)) <;> (first | (simp only [Bool.true_eq_false, Bool.false_eq_true] at ht; done) | ((try simp only [Bool.not_eq_true', Bool.not_eq_false'] at ht); (try simp only [ht]); (try simp only [HTN] at ht); (try (exfalso; omega)))))
    | ((with_reducible refine W_regionI ?_); simp only [List.append_eq, List.cons_append, List.nil_append])
    | (with_reducible refine O_splitG fun cA cB hcA hcB => ?_))
    refine RReason_L h.toHP fun S5 j5 => ?_
    have k5 := j5.kept
    have k15 := k12.trans (k3.trans (k34.trans k5))
    have g5 := k5.get (by omega) g4
    have gq5 := k5.get (by omega) gq4
    have w1 := conv_any (Own.nil 5 1 S5) (xs := [])
    have bx := beq_self_eq_true (⟨#[]⟩ : ByteArray).toList
    have hP5 := hPG.kept (k1.trans k15)
    have hRn : RF S5 (.slice none 0 0) [] := ⟨none, 0, rfl, fun i hi => by simp at hi⟩
    repeat' (first
    | (with_reducible first | refine W_pushC fun K hK => ?_ | refine W_blockI ?_ | refine W_scopeI ?_ | refine W_labelI ?_ | refine W_skipI ?_ | refine W_retI ?_ | refine W_exitI ?_ | refine then_normalI ?_ | refine then_retI ?_ | refine then_exitI ?_ | refine inBlock_normalI ?_ | refine inBlock_retI ?_ | refine inBlock_exitI ?_ | refine inBlock_exitN (by decide) ?_)
    | ((with_reducible first | refine bodyQ_normal0 ?_ | refine bodyQ_normal1 ?_ | refine bodyQ_normal2 ?_ | refine bodyQ_normal3 ?_ | refine bodyQ_normal4 ?_ | refine bodyQ_ret0 ?_ | refine bodyQ_ret1 ?_ | refine bodyQ_ret2 ?_ | refine bodyQ_ret3 ?_ | refine bodyQ_ret4 ?_); (try simp only [EVB, Nat.reduceEqDiff, reduceIte]))
    | ((with_reducible show C _ _ _ _ _ _); first | ((refine fields_C h.toHP hRn hRn (by decide) (by decide) ?_)) | (refine numS_C h.toHP ?_) | (refine h.works _ _ hP5 ?_))
    | (with_reducible refine Cont.use (by assumption) ?_)
    | (with_reducible first | refine hcA ?_ | refine hcB ?_)
    | ((with_reducible first | refine W_condG fun cA cB hcA hcB => ?_ | refine W_regionI ?_ | show O _ _ _ _ _ _ _ _ | show OK _ _ _ _ _ _ _ _ _ | show OKF _ _ _ _ _ _ _ _ _ _ | show OKT _ _ _ _ _ _ _ _ _ _ _ _ | show _ ∧ _ | show CG _ _ _ | show CB _ _ _); simp (disch := first | ((with_reducible show isStop _ = false); rfl) | ((with_reducible show isP _ = true); rfl) | ((with_reducible show (isStop _ || isP _) = false); rfl) | assumption | (simp only [GSB, Nat.reduceEqDiff, reduceIte]; done) | omega | (with_reducible decide) | (simp only [DSB, Go.Proofs.YtdmbgbennlnpcaaDoorAbs.oneC, Go.Proofs.YtdmbgbennlnpcaaDoorAbs.St.next_withLow, Nat.reduceAdd, Nat.reduceLeDiff] <;> omega) | fail) only [↓DN, ↓reduceIte, UP, CGB, Int.reduceEq, Int.reduceLT, Int.reduceLE, Nat.reduceEqDiff, Nat.reduceAdd, Nat.reduceMul, Nat.reduceSub, Int.reduceToNat, Nat.reduceLeDiff, PF, isStop, isP, goInt, beq_self_eq_true, decide_true, decide_false, Int.toNat_natCast, Int.natCast_zero, nn_eq, nn_ne, errW0, errW1, g5, gq5, bs, w1, bx])
    | ((with_reducible refine CB_intro (fun ht => hcA ?_) (fun ht => hcB ?_)) <;> (first | (simp only [Bool.true_eq_false, Bool.false_eq_true] at ht; done) | ((try simp only [Bool.not_eq_true', Bool.not_eq_false'] at ht); (try simp only [ht]); (try simp only [HTN] at ht); (try (exfalso; omega)))))
    | ((with_reducible refine W_regionI ?_); simp only [List.append_eq, List.cons_append, List.nil_append])
    | (with_reducible refine O_splitG fun cA cB hcA hcB => ?_)
    | (exact hQ _))
end
end Go.Proofs.YtdmbgbennlnpcaaDoor.Q
