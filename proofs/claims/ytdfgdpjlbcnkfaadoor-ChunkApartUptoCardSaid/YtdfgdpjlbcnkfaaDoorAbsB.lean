/- The runner over a plain memory, a part of its text; for every program of the model. -/
import Derived.Test.YtdfgdpjlbcnkfaaDoorAbsA
import Derived.Scope
import Derived.Below
import Derived.WalkKit
import Derived.KernelRfl
namespace Go.Proofs.YtdfgdpjlbcnkfaaDoorAbs
set_option linter.unusedVariables false
set_option linter.unusedSimpArgs false

/-! ## Regions in the text's order -/
theorem put_size (a : Act) (d : Option Tmp) (v : Value) : (a.put d v).tmps.size = a.tmps.size := by cases d <;> simp [Act.put]
theorem put_defers (a : Act) (d : Option Tmp) (v : Value) : (a.put d v).defers = a.defers := by cases d <;> rfl
theorem put_get (a : Act) {d : Tmp} (v : Value) (h : d < a.tmps.size) (t : Tmp) : (a.put (some d) v).tmps.getD t undef = if t = d then v else a.tmps.getD t undef := by
  simp only [Act.put, Array.getD_eq_getD_getElem?]
  by_cases e : t = d
  · subst e; simp [h]
  · rw [if_neg e, Array.getElem?_setIfInBounds_ne (Ne.symm e)]
theorem putO_get (e : Env) (d : Tmp) (v : Value) (t : Tmp) : (e.putO (some d) v).get t = if t = d then v else e.get t := by
  by_cases h : t = d
  · subst h; rw [if_pos rfl]; exact e.get_put_self t v
  · rw [if_neg h]; exact e.get_put_ne v h
theorem EnvR.put {P : Program} {ρ : Ren} {e : Env} {a : Act} {N : Nat} {o : Oper} (h : EnvR ρ e a) (hN : a.tmps.size = N) (ho : okOper P N o = true) {v cv : Value} (hv : VR ρ v cv) : EnvR ρ (e.putO o.dst v) (a.put o.dst cv) := by
  intro t
  cases hd : o.dst with
  | none => exact h t
  | some d =>
    have hlt : d < N := by
      unfold okOper at ho
      rw [hd] at ho
      simp only [Bool.and_eq_true, decide_eq_true_eq] at ho
      exact ho.2
    rw [putO_get, put_get a cv (hN ▸ hlt)]
    split
    · exact hv
    · exact h t
theorem oper_ok {P : Program} {N : Nat} {o : Oper} (h : okOper P N o = true) : o.op.operands.all (okOpnd P) = true := by
  simp only [okOper, Bool.and_eq_true] at h; exact h.1
/-- Behind a flagged operation. -/
theorem step_flag {P : Program} {ρ ρ' : Ren} {S S' : St} {w w' : World} (h : Step P ρ (S.withLow S.next) w ρ' S' w') (hl : S.next ≤ S'.low) : Step P ρ S w ρ' (S'.withLow S.low) w' := by
  refine ⟨h.ext, h.env, h.rel.same rfl rfl, h.hsz, h.next, Nat.le_refl _, fun b L loc h1 h2 => ?_, fun m B hm _ hB hk => ?_⟩
  · obtain ⟨a, c⟩ := h.new b L loc h1 h2
    have c' : w.heap.size ≤ loc.B ∨ ∃ b0 L0 loc0, b0 < S.next ∧ (S'.withLow S.low).low ≤ b0 ∧ ρ b0 L0 = some loc0 ∧ loc0.own = true ∧ loc0.B = loc.B := by
      rcases c with c | ⟨b0, L0, loc0, c0, c4, c1⟩
      · exact .inl c
      · exact absurd (Nat.lt_of_lt_of_le (show b0 < S.next from c0) hl) (Nat.not_lt_of_le c4)
    refine ⟨?_, c'⟩
    clear c c'
    rcases a with a | a
    · exact .inl a
    · have h1 : b < S.next := a.1
      have h2 := a.2
      omega
  · exact h.keep m B hm (Nat.le_trans hm hl) hB hk
/-- One step of a region. -/
theorem astep_sim {P : Program} {call : CallF} (hc : CallSim P call) {ρ : Ren} {S S' : St} {w : World} {e e' : Env} {a : Act} {N : Nat} {ops : Array Oper} {o : Oper} {fl : Bool} {Q : Exit → Act → World → Prop} {K : Act → World → Prop}
    (h : Rel P ρ S w) (hwf : S.WF) (hN : a.tmps.size = N) (ho : okOper P N o = true) (ht : ∀ t, t ∈ o.looksAt ops → VR ρ (e.get t) (a.tmps.getD t undef)) (hf : Fresh ρ S S') (hr : astep P call ops o fl e S = some (e', S'))
    (hK : ∀ ρ' v cv w', VR ρ' v cv → e' = e.putO o.dst v → Step P ρ S w ρ' S' w' → K (a.put o.dst cv) w') :
    if Region.wanted o (yielded ops a.tmps) = true then o.wp P a w K Q else K (a.put o.dst undef) w := by
  rw [wants_eq ht]
  unfold astep at hr
  have ht' : ∀ t, Operand.tmp t ∈ o.op.operands → VR ρ (e.get t) (a.tmps.getD t undef) := fun t hm => ht t (by
    refine List.mem_append_left _ (List.mem_filterMap.2 ⟨.tmp t, by simpa using hm, rfl⟩))
  split at hr
  · rename_i hw
    rw [if_pos hw]
    cases fl with
    | false =>
      simp only at hr
      split at hr
      case h_2 => cases hr
      rename_i v S1 hrun
      cases hr
      exact run_sim hc h hwf (oper_ok ho) ht' hf hrun fun ρ' cv w' hv st => hK ρ' v cv w' hv rfl st
    | true =>
      simp only at hr
      split at hr
      case h_2 => cases hr
      rename_i v S1 hrun
      split at hr
      case isFalse => cases hr
      rename_i hl
      cases hr
      refine run_sim (S := S.withLow S.next) (S' := S1) hc (h.same rfl rfl) hwf (oper_ok ho) ht' (fun b L h1 h2 => hf b L h1 h2) hrun fun ρ' cv w' hv st => hK ρ' v cv w' hv rfl (step_flag st hl)
  · rename_i hw
    rw [if_neg hw]
    cases hr
    exact hK ρ undef undef w (vr_undef ρ) rfl (Step.refl h)
/-- What a region or a piece of code comes to. -/
def Post (P : Program) (N : Nat) (ρ : Ren) (S : St) (w : World) (y : Exit) (e' : Env) (S' : St) (y' : Exit) (a' : Act) (w' : World) : Prop :=
  y' = y ∧ a'.defers = [] ∧ a'.tmps.size = N ∧ ∃ ρ', EnvR ρ' e' a' ∧ Step P ρ S w ρ' S' w'
theorem aops_sim {P : Program} {call : CallF} (hc : CallSim P call) {ops : Array Oper} {N : Nat} : ∀ (l : List Oper) (fl : List Bool) {ρ : Ren} {S S' : St} {w : World} {e e' : Env} {a : Act}, (∀ o ∈ l, okOper P N o = true) →
    Rel P ρ S w → S.WF → EnvR ρ e a → a.tmps.size = N → a.defers = [] → Fresh ρ S S' → aops P call ops l fl e S = some (e', S') → wpList P ops (Post P N ρ S w .normal e' S') l a w
  | [], fl, ρ, S, S', w, e, e', a, _, h, _, he, hN, hd, _, hr => by
    cases hr
    exact ⟨rfl, hd, hN, ρ, he, Step.refl h⟩
  | o :: r, fl, ρ, S, S', w, e, e', a, hok, h, hwf, he, hN, hd, hf, hr => by
    unfold aops at hr
    split at hr
    case h_2 => cases hr
    rename_i e1 S1 hst
    have hm := astep_mono hc hst
    have hm2 := aops_mono hc r fl.tail hr
    have ho := hok o (by simp)
    have key := astep_sim (Q := Post P N ρ S w .normal e' S') (K := wpList P ops (Post P N ρ S w .normal e' S') r) hc h hwf hN ho (fun t _ => he t) (hf.left hm2.next) hst (fun ρ' v cv w' hv e1' st => by
      subst e1'
      have ih := aops_sim hc r fl.tail (fun o' hm => hok o' (by simp [hm])) st.rel (hm.wf hwf) ((he.mono st.ext).put hN ho hv) ((put_size a o.dst cv).trans hN) ((put_defers a o.dst cv).trans hd) (hf.right st) hr
      have hmono : ∀ (l : List Oper) (a : Act) (w2 : World), wpList P ops (Post P N ρ' S1 w' .normal e' S') l a w2 → wpList P ops (Post P N ρ S w .normal e' S') l a w2 := by
        intro l
        induction l with
        | nil =>
          rintro a w2 ⟨q1, q2, q3, ρ2, q4, q5⟩
          exact ⟨q1, q2, q3, ρ2, q4, st.trans (hf.left hm2.next) q5⟩
        | cons o2 l ih2 =>
          intro a w2 hw
          unfold wpList at hw ⊢
          split
          · rename_i hwt
            rw [if_pos hwt] at hw
            rcases hw with hw | ⟨_, a0, w0, q⟩
            · left
              unfold Oper.wp at hw ⊢
              generalize (execOp a.eval o2).run P w2 = rr at hw ⊢
              cases rr with
              | ok n w3 =>
                cases n <;> simp only [Oper.upon] at hw ⊢ <;>
                  first
                  | exact ih2 _ _ hw
                  | exact Calls.mono hw (fun e3 w4 h4 => by
                      cases e3 with
                      | returned v => exact ih2 _ _ h4
                      | panicked c => cases h4.1
                      | outgrown => obtain ⟨_, _, h5⟩ := h4; cases h5.1)
                  | exact Rows.mono hw (fun v w4 h4 => ih2 _ _ h4)
                  | exact hw
              | halt hx w3 =>
                cases hx <;> simp only [Oper.upon] at hw ⊢
                cases hw.1
            · cases q.1
          · rename_i hwt
            rw [if_neg hwt] at hw
            exact ih2 _ _ hw
      exact hmono r _ _ ih)
    unfold wpList
    split
    · rename_i hw
      rw [if_pos hw] at key
      exact .inl key
    · rename_i hw
      rw [if_neg hw] at key
      exact key
end Go.Proofs.YtdfgdpjlbcnkfaaDoorAbs
namespace Go.Proofs.YtdfgdpjlbcnkfaaDoorAbs
set_option linter.unusedVariables false
set_option linter.unusedSimpArgs false

/-! ## Regions whose order is open -/
inductive Anc (ops : Array Oper) : Nat → Nat → Prop
  | edge (j : Nat) (o : Oper) (e : Edge) (h : ops[j]? = some o) (he : e ∈ o.after) (hb : Region.binds .any e = true) : Anc ops e.on j
  | trans (i m j : Nat) (h : Anc ops i m) (k : Anc ops m j) : Anc ops i j
def ancRow (acc : List Nat) (o : Oper) : Nat := o.after.toList.foldl (fun s e => if Region.binds .any e = true then (s ||| 2 ^ e.on) ||| acc.getD e.on 0 else s) 0
def ancs : List Oper → List Nat → List Nat
  | [], acc => acc
  | o :: r, acc => ancs r (acc ++ [ancRow acc o])
theorem ancRow_fold (acc : List Nat) (i : Nat) : ∀ (l : List Edge) (s : Nat), (l.foldl (fun s e => if Region.binds .any e = true then (s ||| 2 ^ e.on) ||| acc.getD e.on 0 else s) s).testBit i = true →
    s.testBit i = true ∨ ∃ e ∈ l, Region.binds .any e = true ∧ (i = e.on ∨ (acc.getD e.on 0).testBit i = true)
  | [], s, h => .inl h
  | e :: l, s, h => by
    rw [List.foldl_cons] at h
    rcases ancRow_fold acc i l _ h with h1 | ⟨e', h1, h2⟩
    · split at h1
      · rename_i hb
        rw [Nat.testBit_or, Nat.testBit_or, Nat.testBit_two_pow, Bool.or_eq_true, Bool.or_eq_true, decide_eq_true_eq] at h1
        rcases h1 with (h1 | h1) | h1
        · exact .inl h1
        · exact .inr ⟨e, by simp, hb, .inl h1.symm⟩
        · exact .inr ⟨e, by simp, hb, .inr h1⟩
      · exact .inl h1
    · exact .inr ⟨e', by simp [h1], h2⟩
theorem ancs_spec {ops : Array Oper} : ∀ (l : List Oper) (acc : List Nat), (∀ k, l[k]? = ops[acc.length + k]?) → (∀ j i, (acc.getD j 0).testBit i = true → Anc ops i j) → ∀ j i, ((ancs l acc).getD j 0).testBit i = true → Anc ops i j
  | [], acc, _, h => h
  | o :: r, acc, hk, h => by
    refine ancs_spec r _ (fun k => ?_) (fun j i hb => ?_)
    · have := hk (k + 1)
      simp only [List.getElem?_cons_succ] at this
      rw [this, List.length_append, List.length_singleton]
      congr 1
      omega
    · by_cases hj : j < acc.length
      · rw [List.getD_eq_getElem?_getD, List.getElem?_append_left hj, ← List.getD_eq_getElem?_getD] at hb
        exact h j i hb
      · by_cases hj2 : j = acc.length
        · subst hj2
          rw [List.getD_eq_getElem?_getD, List.getElem?_append_right (Nat.le_refl _), Nat.sub_self] at hb
          simp only [List.getElem?_cons_zero, Option.getD_some] at hb
          have ho : ops[acc.length]? = some o := by have := hk 0; simpa using this.symm
          rcases ancRow_fold acc i _ 0 hb with h1 | ⟨e, h1, h2, h3⟩
          · simp at h1
          · have he : Anc ops e.on acc.length := .edge _ o e ho (by simpa using h1) h2
            rcases h3 with h3 | h3
            · rw [h3]; exact he
            · exact .trans _ _ _ (h _ _ h3) he
        · rw [List.getD_eq_getElem?_getD, List.getElem?_append_right (by omega), List.getElem?_eq_none (by simp; omega)] at hb
          simp at hb
def isP : Op → Bool
  | .move _ => true
  | .assign _ => true
  | .pick _ _ _ => true
  | .nilCheck _ => true
  | .binOp _ _ _ _ _ => true
  | .unOp _ _ _ => true
  | .fieldAddr _ _ _ => true
  | .field _ _ _ => true
  | .indexAddr _ _ _ => true
  | .index _ _ _ => true
  | .makeInterface _ _ => true
  | .makeFunc _ _ _ => true
  | .typeAssert _ _ _ _ => true
  | .slice _ _ _ _ _ => true
  | .extract _ _ => true
  | .build _ _ => true
  | .call ⟨.builtin .len, _, _⟩ => true
  | .call ⟨.builtin .cap, _, _⟩ => true
  | .call ⟨.builtin .min, _, _⟩ => true
  | .call ⟨.builtin .max, _, _⟩ => true
  | _ => false
theorem pure_H {P : Program} {ev : Operand → Value} {op : Op} (h : isP op = true) : ∃ r : Option Value, ∀ S, aopH P ev op S = r.map fun v => (v, S) := by
  have some_ : ∀ v : Value, ∃ r : Option Value, ∀ S : St, (some (v, S) : Option (Value × St)) = r.map fun v => (v, S) := fun v => ⟨some v, fun _ => rfl⟩
  have none_ : ∃ r : Option Value, ∀ S : St, (none : Option (Value × St)) = r.map fun v => (v, S) := ⟨none, fun _ => rfl⟩
  cases op <;> simp only [isP] at h <;> simp only [aopH]
  case call c =>
    obtain ⟨callee, args, ts⟩ := c
    cases callee <;> simp only at h ⊢
    case builtin b =>
      cases b <;> simp only [isP] at h <;> unfold abuiltin <;> (repeat' split) <;> first | exact some_ _ | exact none_ | simp_all
    all_goals first | exact none_ | (simp at h)
  all_goals first
    | (cases h; done)
    | ((repeat' split) <;> first | exact some_ _ | exact none_)
theorem pure_run {P : Program} {call : CallF} {ev : Operand → Value} {o : Oper} {S S' : St} {v : Value} (h : isP o.op = true) (hr : arun P call ev o S = some (v, S')) : S' = S ∧ ∀ S2, arun P call ev o S2 = some (v, S2) := by
  have e1 : ∀ S, arun P call ev o S = aop P ev o S := by
    intro S
    unfold arun
    split
    · rename_i hop
      rw [hop] at h
      simp [isP] at h
    · rfl
  rw [e1] at hr
  obtain ⟨r, hH⟩ := pure_H (P := P) (ev := ev) h
  have e2 : ∀ S, aop P ev o S = match r with | some u => some (u, S) | none => ascalar P ev o S := by
    intro S
    unfold aop
    rw [hH]
    cases r <;> rfl
  have e3 : ∃ q : Option Value, ∀ S, ascalar P ev o S = q.map fun v => (v, S) := by
    unfold ascalar
    (repeat' split) <;> first | exact ⟨some _, fun _ => rfl⟩ | exact ⟨none, fun _ => rfl⟩
  obtain ⟨q, hq⟩ := e3
  rw [e2] at hr
  cases r with
  | some u => cases hr; exact ⟨rfl, fun S2 => by rw [e1, e2]⟩
  | none =>
    simp only at hr
    rw [hq] at hr
    cases q with
    | none => simp at hr
    | some u => simp at hr; obtain ⟨rfl, rfl⟩ := hr; exact ⟨rfl, fun S2 => by rw [e1, e2]; simp only; rw [hq]; rfl⟩
/-- Does operation i wait for all others that look at memory, and they for it? -/
def fullB (ops : Array Oper) (an : List Nat) (i : Nat) : Bool :=
  (List.range ops.size).all fun j => j == i || (match ops[j]? with | some o => isP o.op | none => true) || (if j < i then (an.getD i 0).testBit j else (an.getD j 0).testBit i)
def barB (ops : Array Oper) (an : List Nat) (i : Nat) : Bool :=
  (match ops[i]? with | some o => !isP o.op | none => false) && fullB ops an i
def flagsOf (ops : Array Oper) : List Bool := (List.range ops.size).map fun i => !barB ops (ancs ops.toList []) i
/-- Do they share a temporary? -/
def sharesB (ops : Array Oper) (x y : Oper) : Bool :=
  (match x.dst with | some d => (y.looksAt ops).contains d || y.dst == some d | none => false) || (match y.dst with | some d => (x.looksAt ops).contains d | none => false)
def drawOk (ops : Array Oper) : Bool :=
  (List.range ops.size).all fun j =>
    match ops[j]? with
    | none => true
    | some oj => oj.after.all (fun e => !Region.binds .any e || decide (e.on < j)) &&
      (List.range j).all fun i =>
        match ops[i]? with
        | none => true
        | some oi => !sharesB ops oi oj || ((ancs ops.toList []).getD j 0).testBit i

def cnt : Nat → Array Bool → Nat
  | 0, _ => 0
  | k + 1, l => cnt k l + if l.getD k false = true then 0 else 1
theorem getD_set {l : Array Bool} {i j : Nat} (hi : i < l.size) : (l.setIfInBounds i true).getD j false = if j = i then true else l.getD j false := by
  simp only [Array.getD_eq_getD_getElem?]
  by_cases e : j = i
  · subst e; simp [hi]
  · rw [if_neg e, Array.getElem?_setIfInBounds_ne (Ne.symm e)]
theorem cnt_out : ∀ (k : Nat) (l : Array Bool) {i : Nat}, i < l.size → k ≤ i → cnt k (l.setIfInBounds i true) = cnt k l
  | 0, _, _, _, _ => rfl
  | k + 1, l, i, hi, h => by
    unfold cnt
    rw [cnt_out k l hi (by omega)]
    simp only [getD_set hi, if_neg (show ¬ k = i by omega)]
theorem cnt_set : ∀ (k : Nat) (l : Array Bool) {i : Nat}, i < l.size → i < k → l.getD i false = false → cnt k (l.setIfInBounds i true) + 1 = cnt k l
  | 0, _, _, _, h, _ => absurd h (Nat.not_lt_zero _)
  | k + 1, l, i, hi, h, hu => by
    unfold cnt
    rw [getD_set hi]
    by_cases e : k = i
    · subst e
      rw [if_pos rfl, cnt_out k l hi (Nat.le_refl _), hu]
      simp
    · rw [if_neg e]
      have := cnt_set k l hi (by omega) hu
      omega
theorem cnt_zero : ∀ (k : Nat) (l : Array Bool), cnt k l = 0 → ∀ i, i < k → l.getD i false = true
  | 0, _, _, i, hi => absurd hi (Nat.not_lt_zero _)
  | k + 1, l, h, i, hi => by
    unfold cnt at h
    by_cases e : i = k
    · subst e
      by_cases q : l.getD i false = true
      · exact q
      · rw [if_neg q] at h; omega
    · exact cnt_zero k l (by omega) i (by omega)
theorem cnt_le : ∀ (k : Nat) (l : Array Bool), cnt k l ≤ k
  | 0, _ => Nat.le_refl _
  | k + 1, l => by
    have := cnt_le k l
    unfold cnt
    split <;> omega

/-- The runs of a region's operations, one by one. -/
theorem aops_trace {P : Program} {call : CallF} {ops : Array Oper} : ∀ (l : List Oper) (fl : List Bool) {e e' : Env} {S S' : St}, aops P call ops l fl e S = some (e', S') →
    ∃ (E : Nat → Env) (T : Nat → St), E 0 = e ∧ T 0 = S ∧ E l.length = e' ∧ T l.length = S' ∧ ∀ k o, l[k]? = some o → astep P call ops o (fl.getD k false) (E k) (T k) = some (E (k + 1), T (k + 1))
  | [], fl, e, e', S, S', h => by
    cases h
    exact ⟨fun _ => e, fun _ => S, rfl, rfl, rfl, rfl, fun k o q => by simp at q⟩
  | o :: r, fl, e, e', S, S', h => by
    unfold aops at h
    split at h
    case h_2 => cases h
    rename_i e1 S1 hst
    obtain ⟨E, T, h1, h2, h3, h4, h5⟩ := aops_trace r fl.tail h
    refine ⟨fun k => match k with | 0 => e | k + 1 => E k, fun k => match k with | 0 => S | k + 1 => T k, rfl, rfl, h3, h4, fun k o' q => ?_⟩
    cases k with
    | zero =>
      simp at q
      subst q
      simp only [h1, h2]
      have : fl.getD 0 false = fl.headD false := by cases fl <;> rfl
      rw [this]
      exact hst
    | succ k =>
      have := h5 k o' (by simpa using q)
      have e2 : fl.getD (k + 1) false = fl.tail.getD k false := by cases fl <;> simp
      rw [e2]
      exact this
end Go.Proofs.YtdfgdpjlbcnkfaaDoorAbs
namespace Go.Proofs.YtdfgdpjlbcnkfaaDoorAbs
set_option linter.unusedVariables false
set_option linter.unusedSimpArgs false

theorem Rel.lift {P : Program} {ρ : Ren} {S1 S2 : St} {w : World} (h : Rel P ρ S1 w) (hg : ∀ b L loc blk, ρ b L = some loc → S2.get b = some blk → S1.get b = some blk) : Rel P ρ S2 w :=
  ⟨h.glob, h.loc, fun b L loc blk k g => h.blk b L loc blk k (hg b L loc blk k g), fun b L loc b' L' loc' k k' o e a a' => h.inj b L loc b' L' loc' k k' o e
    (let ⟨blk, g1, g2⟩ := a; ⟨blk, hg b L loc blk k g1, g2⟩) (let ⟨blk, g1, g2⟩ := a'; ⟨blk, hg b' L' loc' blk k' g1, g2⟩)⟩
/-- The value that stands in a temporary when just these operations have been carried out. -/
def TX (ops : Array Oper) (E : Nat → Env) (listed : Array Bool) : Nat → Tmp → Value
  | 0, t => (E 0).get t
  | k + 1, t => if listed.getD k false = true ∧ (ops[k]?).bind (·.dst) = some t then (E (k + 1)).get t else TX ops E listed k t

section
variable {P : Program} {call : CallF} {ops : Array Oper} {E : Nat → Env} {T : Nat → St} {N : Nat}

/-- The facts on a drawn region's text and on its run in the text's order. -/
structure Draw (P : Program) (call : CallF) (ops : Array Oper) (E : Nat → Env) (T : Nat → St) (N : Nat) : Prop where
  cs : CallSim P call
  ok : ∀ o ∈ ops.toList, okOper P N o = true
  dr : drawOk ops = true
  tr : ∀ k o, ops[k]? = some o → astep P call ops o ((flagsOf ops).getD k false) (E k) (T k) = some (E (k + 1), T (k + 1))
  wf : (T 0).WF

theorem flag_at {i : Nat} (h : i < ops.size) : (flagsOf ops).getD i false = !barB ops (ancs ops.toList []) i := by
  unfold flagsOf
  rw [List.getD_eq_getElem?_getD, List.getElem?_map, List.getElem?_range h]
  rfl
theorem anc_of {i j : Nat} (h : ((ancs ops.toList []).getD j 0).testBit i = true) : Anc ops i j :=
  ancs_spec ops.toList [] (fun k => by simp) (fun j i hb => by simp at hb) j i h
theorem Draw.mono1 (d : Draw P call ops E T N) {k : Nat} (h : k < ops.size) : Mono (T k) (T (k + 1)) := astep_mono d.cs (d.tr k _ (Array.getElem?_eq_getElem h))
theorem Draw.mono (d : Draw P call ops E T N) {i : Nat} : ∀ {k : Nat}, i ≤ k → k ≤ ops.size → Mono (T i) (T k)
  | 0, h, _ => by
    obtain rfl : i = 0 := by omega
    exact Mono.refl _
  | k + 1, h, hk => by
    by_cases e : i = k + 1
    · subst e; exact Mono.refl _
    · exact (d.mono (by omega : i ≤ k) (by omega)).trans (d.mono1 (by omega))
theorem Draw.wfk (d : Draw P call ops E T N) {k : Nat} (h : k ≤ ops.size) : (T k).WF := (d.mono (Nat.zero_le k) h).wf d.wf
/-- A flagged operation changes nothing that stood there. -/
theorem Draw.agree1 (d : Draw P call ops E T N) {k : Nat} (h : k < ops.size) (hb : barB ops (ancs ops.toList []) k = false) : ∀ b, b < (T k).next → (T (k + 1)).get b = (T k).get b := by
  intro b hbn
  have ht := d.tr k _ (Array.getElem?_eq_getElem h)
  rw [flag_at h, hb, Bool.not_false] at ht
  unfold astep at ht
  split at ht
  · simp only at ht
    split at ht
    case h_2 => cases ht
    rename_i v S1 hrun
    split at ht
    case isFalse => cases ht
    rename_i hl
    have hm := arun_mono d.cs hrun
    simp only [Option.some.injEq, Prod.mk.injEq] at ht
    rw [← ht.2]
    exact hm.frame b hbn (Nat.lt_of_lt_of_le hbn hl)
  · simp only [Option.some.injEq, Prod.mk.injEq] at ht
    rw [← ht.2]
theorem Draw.agree (d : Draw P call ops E T N) {i : Nat} : ∀ {k : Nat}, i ≤ k → k ≤ ops.size → (∀ j, i ≤ j → j < k → barB ops (ancs ops.toList []) j = false) → ∀ b, b < (T i).next → (T k).get b = (T i).get b
  | 0, h, _, _, b, hb => by
    obtain rfl : i = 0 := by omega
    rfl
  | k + 1, h, hk, hn, b, hb => by
    by_cases e : i = k + 1
    · subst e; rfl
    · rw [d.agree1 (k := k) (by omega) (hn k (by omega) (by omega)) b (Nat.lt_of_lt_of_le hb (d.mono (by omega : i ≤ k) (by omega)).next)]
      exact d.agree (by omega : i ≤ k) (by omega) (fun j h1 h2 => hn j h1 (by omega)) b hb
/-- An operation that looks at no memory, or that is not carried out. -/
theorem Draw.pureStep (d : Draw P call ops E T N) {k : Nat} {o : Oper} (ho : ops[k]? = some o) (hp : isP o.op = true ∨ wants ops o (E k) = false) : T (k + 1) = T k := by
  have ht := d.tr k o ho
  unfold astep at ht
  split at ht
  · rename_i hw
    have hp1 : isP o.op = true := hp.resolve_right (by rw [hw]; simp)
    cases hf : (flagsOf ops).getD k false with
    | false =>
      rw [hf] at ht
      simp only at ht
      split at ht
      case h_2 => cases ht
      rename_i v S1 hrun
      have := (pure_run hp1 hrun).1
      subst this
      simp only [Option.some.injEq, Prod.mk.injEq] at ht
      exact ht.2.symm
    | true =>
      rw [hf] at ht
      simp only at ht
      split at ht
      case h_2 => cases ht
      rename_i v S1 hrun
      split at ht
      case isFalse => cases ht
      have := (pure_run hp1 hrun).1
      subst this
      simp only [Option.some.injEq, Prod.mk.injEq] at ht
      exact ht.2.symm
  · simp only [Option.some.injEq, Prod.mk.injEq] at ht
    exact ht.2.symm
theorem Draw.put (d : Draw P call ops E T N) {k : Nat} {o : Oper} (ho : ops[k]? = some o) : ∃ v, E (k + 1) = (E k).putO o.dst v := by
  have ht := d.tr k o ho
  unfold astep at ht
  split at ht
  · split at ht
    · split at ht
      · simp only [Option.some.injEq, Prod.mk.injEq] at ht
        exact ⟨_, ht.1.symm⟩
      · cases ht
    · split at ht
      · split at ht
        · simp only [Option.some.injEq, Prod.mk.injEq] at ht
          exact ⟨_, ht.1.symm⟩
        · cases ht
      · cases ht
  · simp only [Option.some.injEq, Prod.mk.injEq] at ht
    exact ⟨_, ht.1.symm⟩
theorem Draw.get_ne (d : Draw P call ops E T N) {k : Nat} (hk : k < ops.size) {t : Tmp} (h : (ops[k]?).bind (·.dst) ≠ some t) : (E (k + 1)).get t = (E k).get t := by
  have ho := Array.getElem?_eq_getElem hk
  obtain ⟨v, e⟩ := d.put ho
  rw [e]
  rw [ho] at h
  simp only [Option.bind_some] at h
  cases hd : (ops[k]).dst with
  | none => rfl
  | some s =>
    rw [putO_get, if_neg]
    intro q
    subst q
    exact h hd
theorem Draw.tx_all (d : Draw P call ops E T N) {listed : Array Bool} {t : Tmp} : ∀ {m : Nat}, m ≤ ops.size → (∀ j, j < m → (ops[j]?).bind (·.dst) = some t → listed.getD j false = true) → TX ops E listed m t = (E m).get t
  | 0, _, _ => rfl
  | m + 1, hm, h => by
    unfold TX
    split
    · rfl
    · rename_i hc
      have hd : (ops[m]?).bind (·.dst) ≠ some t := fun q => hc ⟨h m (by omega) q, q⟩
      rw [d.get_ne (by omega) hd]
      exact d.tx_all (by omega) (fun j hj => h j (by omega))
theorem tx_none {listed : Array Bool} {t : Tmp} {m : Nat} : ∀ {k : Nat}, m ≤ k → (∀ j, m ≤ j → j < k → (ops[j]?).bind (·.dst) = some t → listed.getD j false = false) → TX ops E listed k t = TX ops E listed m t
  | 0, h, _ => by
    obtain rfl : m = 0 := by omega
    rfl
  | k + 1, h, hn => by
    by_cases e : m = k + 1
    · subst e; rfl
    · rw [TX, if_neg]
      · exact tx_none (by omega : m ≤ k) (fun j h1 h2 => hn j h1 (by omega))
      · rintro ⟨h1, h2⟩
        rw [hn k (by omega) (by omega) h2] at h1
        cases h1
theorem tx_set {listed : Array Bool} {i : Nat} (hi : i < listed.size) {t : Tmp} (h : (ops[i]?).bind (·.dst) ≠ some t) : ∀ (k : Nat), TX ops E (listed.setIfInBounds i true) k t = TX ops E listed k t
  | 0 => rfl
  | k + 1 => by
    unfold TX
    rw [getD_set hi, tx_set hi h k]
    by_cases e : k = i
    · subst e
      rw [if_neg (fun q => h q.2), if_neg (fun q => h q.2)]
    · rw [if_neg e]

/-- What holds when these operations have been carried out. -/
structure DInv (P : Program) (ops : Array Oper) (E : Nat → Env) (T : Nat → St) (N : Nat) (ρ0 : Ren) (w0 : World) (fuel : Nat) (listed : Array Bool) (ρ : Ren) (m : Nat) (a : Act) (w : World) : Prop where
  size : listed.size = ops.size
  count : cnt ops.size listed = fuel
  down : ∀ i j, Anc ops i j → listed.getD j false = true → listed.getD i false = true
  mle : m ≤ ops.size
  mbar : m = ops.size ∨ (barB ops (ancs ops.toList []) m = true ∧ listed.getD m false = false)
  mlow : ∀ i, i < m → barB ops (ancs ops.toList []) i = true → listed.getD i false = true
  step : Step P ρ0 (T 0) w0 ρ (T m) w
  keys : ∀ k, k < ops.size → listed.getD k false = false → ∀ b L, (T k).next ≤ b → b < (T (k + 1)).next → ρ b L = none
  tmps : ∀ t, VR ρ (TX ops E listed ops.size t) (a.tmps.getD t undef)
  tsz : a.tmps.size = N
  defers : a.defers = []

theorem bar_full {i : Nat} (h : barB ops (ancs ops.toList []) i = true) : (∃ o, ops[i]? = some o ∧ isP o.op = false) ∧ ∀ j o, j ≠ i → ops[j]? = some o → isP o.op = false → (j < i → Anc ops j i) ∧ (i < j → Anc ops i j) := by
  unfold barB at h
  rw [Bool.and_eq_true] at h
  obtain ⟨h1, h2⟩ := h
  refine ⟨?_, fun j o hj ho hp => ?_⟩
  · cases ho : ops[i]? with
    | none => rw [ho] at h1; cases h1
    | some o => rw [ho] at h1; exact ⟨o, rfl, by simpa using h1⟩
  · unfold fullB at h2
    rw [List.all_eq_true] at h2
    have hjs : j < ops.size := (Array.getElem?_eq_some_iff.1 ho).1
    have := h2 j (List.mem_range.2 hjs)
    simp only [ho, hp, Bool.or_false, Bool.or_eq_true, beq_iff_eq, hj, false_or] at this
    constructor
    · intro hlt
      rw [if_pos hlt] at this
      exact anc_of this
    · intro hlt
      rw [if_neg (by omega)] at this
      exact anc_of this
theorem draw_edges (d : Draw P call ops E T N) {j : Nat} {o : Oper} (ho : ops[j]? = some o) {e : Edge} (he : e ∈ o.after) (hb : Region.binds .any e = true) : e.on < j := by
  have hd := d.dr
  unfold drawOk at hd
  rw [List.all_eq_true] at hd
  have := hd j (List.mem_range.2 (Array.getElem?_eq_some_iff.1 ho).1)
  simp only [ho, Bool.and_eq_true] at this
  have h1 := this.1
  rw [Array.all_eq_true_iff_forall_mem] at h1
  have := h1 e he
  simpa [hb] using this
theorem draw_shares (d : Draw P call ops E T N) {i j : Nat} {oi oj : Oper} (hij : i < j) (hi : ops[i]? = some oi) (hj : ops[j]? = some oj) (hs : sharesB ops oi oj = true) : Anc ops i j := by
  have hd := d.dr
  unfold drawOk at hd
  rw [List.all_eq_true] at hd
  have := hd j (List.mem_range.2 (Array.getElem?_eq_some_iff.1 hj).1)
  simp only [hj, Bool.and_eq_true] at this
  have h2 := this.2
  rw [List.all_eq_true] at h2
  have := h2 i (List.mem_range.2 hij)
  simp only [hi, hs, Bool.not_true, Bool.false_or] at this
  exact anc_of this

theorem draw_all (d : Draw P call ops E T N) {ρ0 : Ren} {w0 : World} (hf0 : Fresh ρ0 (T 0) (T ops.size)) {Q : Exit → Act → World → Prop}
    (hQ : ∀ ρ a w, EnvR ρ (E ops.size) a → a.tmps.size = N → a.defers = [] → Step P ρ0 (T 0) w0 ρ (T ops.size) w → Q .normal a w) :
    ∀ (fuel : Nat) (listed : Array Bool) (ρ : Ren) (m : Nat) (a : Act) (w : World), DInv P ops E T N ρ0 w0 fuel listed ρ m a w → wpAny P .any ops Q fuel listed a w := by
  intro fuel
  induction fuel with
  | zero =>
    intro listed ρ m a w I
    have hall := cnt_zero ops.size listed I.count
    refine ⟨?_, ?_⟩
    · cases hr : Region.ready .any ops listed with
      | nil => rfl
      | cons x xs =>
        exfalso
        have hx : x ∈ Region.ready .any ops listed := by rw [hr]; simp
        obtain ⟨h0, o, ho, _⟩ := mem_ready.1 hx
        have hlt : x < ops.size := (Array.getElem?_eq_some_iff.1 ho).1
        have h1 := hall x hlt
        have : x < listed.size := by rw [I.size]; exact hlt
        simp only [Array.getD_eq_getD_getElem?, Array.getElem?_eq_getElem this, Option.getD_some] at h0 h1
        rw [h0] at h1
        cases h1
    · have hm : m = ops.size := by
        rcases I.mbar with e | ⟨h1, h2⟩
        · exact e
        · by_cases hlt : m < ops.size
          · rw [hall m hlt] at h2; cases h2
          · have := I.mle; omega
      subst hm
      refine hQ ρ a w (fun t => ?_) I.tsz I.defers I.step
      rw [← d.tx_all (Nat.le_refl _) (fun j hj _ => hall j hj)]
      exact I.tmps t
  | succ fuel ih =>
    intro listed ρ m a w I
    refine ⟨fun hr => ?_, fun i hi => ?_⟩
    · -- somebody is always ready: the first that has not been carried out
      exfalso
      have hex : ∃ i, i < ops.size ∧ listed.getD i false = false ∧ ∀ j, j < i → listed.getD j false = true := by
        have key : ∀ k, cnt k listed ≠ 0 → ∃ i, i < k ∧ listed.getD i false = false ∧ ∀ j, j < i → listed.getD j false = true := by
          intro k
          induction k with
          | zero => intro h; exact absurd rfl h
          | succ k ihk =>
            intro h
            by_cases q : cnt k listed = 0
            · refine ⟨k, by omega, ?_, cnt_zero k listed q⟩
              by_cases q2 : listed.getD k false = true
              · unfold cnt at h; rw [q, if_pos q2] at h; exact absurd rfl h
              · simpa using q2
            · obtain ⟨i, h1, h2, h3⟩ := ihk q
              exact ⟨i, by omega, h2, h3⟩
        exact key ops.size (by rw [I.count]; omega)
      obtain ⟨i, h1, h2, h3⟩ := hex
      have : i ∈ Region.ready .any ops listed := by
        rw [mem_ready]
        refine ⟨?_, _, Array.getElem?_eq_getElem h1, fun e he hb => h3 e.on (draw_edges d (Array.getElem?_eq_getElem h1) he hb)⟩
        have hls : i < listed.size := by rw [I.size]; exact h1
        simp only [Array.getD_eq_getD_getElem?, Array.getElem?_eq_getElem hls, Option.getD_some] at h2 ⊢
        exact h2
      rw [hr] at this
      cases this
    · obtain ⟨hun0, o, ho, hedges⟩ := mem_ready.1 hi
      have hlt : i < ops.size := (Array.getElem?_eq_some_iff.1 ho).1
      have hls : i < listed.size := by rw [I.size]; exact hlt
      have hun : listed.getD i false = false := by
        simp only [Array.getD_eq_getD_getElem?, Array.getElem?_eq_getElem hls, Option.getD_some] at hun0 ⊢
        exact hun0
      have hanc : ∀ k, Anc ops k i → listed.getD k false = true := by
        intro k hk
        generalize hi' : i = i' at hk
        induction hk with
        | edge j o' e h he hb =>
          subst hi'
          rw [ho] at h
          cases h
          exact hedges e he hb
        | trans k0 m0 j h k ih1 ih2 =>
          subst hi'
          exact I.down _ _ h (ih2 rfl)
      have hokO : okOper P N o = true := d.ok o (by simpa using Array.mem_of_getElem? ho)
      -- the temporaries that it looks at
      have hlook : ∀ t, t ∈ o.looksAt ops → VR ρ ((E i).get t) (a.tmps.getD t undef) := by
        intro t ht
        have h1 : TX ops E listed ops.size t = TX ops E listed i t := tx_none (Nat.le_of_lt hlt) fun j hj hjs hd => by
          by_cases e : j = i
          · subst e; exact hun
          · cases hoj : ops[j]? with
            | none => rw [hoj] at hd; cases hd
            | some oj =>
              rw [hoj] at hd
              simp only [Option.bind_some] at hd
              have := draw_shares d (by omega : i < j) ho hoj (by unfold sharesB; rw [hd]; simp [ht])
              by_cases q : listed.getD j false = true
              · have := I.down _ _ this q
                rw [hun] at this; cases this
              · simpa using q
        have h2 : TX ops E listed i t = (E i).get t := d.tx_all (Nat.le_of_lt hlt) fun j hj hd => by
          cases hoj : ops[j]? with
          | none => rw [hoj] at hd; cases hd
          | some oj =>
            rw [hoj] at hd
            simp only [Option.bind_some] at hd
            exact hanc j (draw_shares d hj hoj ho (by unfold sharesB; rw [hd]; simp [ht]))
        rw [← h2, ← h1]
        exact I.tmps t
      -- those who come behind it and write what it writes
      have hafter : ∀ t, o.dst = some t → ∀ j, i < j → (ops[j]?).bind (·.dst) = some t → listed.getD j false = false := by
        intro t ht j hj hd
        cases hoj : ops[j]? with
        | none => rw [hoj] at hd; cases hd
        | some oj =>
          rw [hoj] at hd
          simp only [Option.bind_some] at hd
          have := draw_shares d hj ho hoj (by unfold sharesB; rw [ht, hd]; simp)
          by_cases q : listed.getD j false = true
          · have := I.down _ _ this q
            rw [hun] at this; cases this
          · simpa using q
      have htm := d.tr i o ho
      -- the new temporaries
      have newtmps : ∀ ρ' v cv, ρ.le ρ' → VR ρ' v cv → E (i + 1) = (E i).putO o.dst v → ∀ t, VR ρ' (TX ops E (listed.setIfInBounds i true) ops.size t) ((a.put o.dst cv).tmps.getD t undef) := by
        intro ρ' v cv hle hv he t
        by_cases hd : o.dst = some t
        · have h1 : TX ops E (listed.setIfInBounds i true) ops.size t = TX ops E (listed.setIfInBounds i true) (i + 1) t := tx_none (by omega) fun j hj hjs hdj => by
            rw [getD_set hls, if_neg (by omega)]
            exact hafter t hd j (by omega) hdj
          have hlt2 : t < N := by
            have := hokO
            unfold okOper at this
            rw [hd] at this
            simp only [Bool.and_eq_true, decide_eq_true_eq] at this
            exact this.2
          rw [h1, TX, if_pos ⟨by rw [getD_set hls, if_pos rfl], by rw [ho]; exact hd⟩, he, hd, putO_get, if_pos rfl, put_get a cv (I.tsz ▸ hlt2), if_pos rfl]
          exact hv
        · have hd2 : (ops[i]?).bind (·.dst) ≠ some t := by rw [ho]; exact hd
          rw [tx_set hls hd2]
          have e1 : (a.put o.dst cv).tmps.getD t undef = a.tmps.getD t undef := by
            cases hdd : o.dst with
            | none => rfl
            | some s =>
              have hlt2 : s < N := by
                have := hokO
                unfold okOper at this
                rw [hdd] at this
                simp only [Bool.and_eq_true, decide_eq_true_eq] at this
                exact this.2
              rw [put_get a cv (I.tsz ▸ hlt2), if_neg]
              intro q
              subst q
              exact hd hdd
          rw [e1]
          exact (I.tmps t).mono hle
      have newdown : ∀ i' j', Anc ops i' j' → (listed.setIfInBounds i true).getD j' false = true → (listed.setIfInBounds i true).getD i' false = true := by
        intro i' j' hA hj'
        rw [getD_set hls] at hj' ⊢
        split
        · rfl
        · split at hj'
          · rename_i e
            subst e
            exact hanc i' hA
          · exact I.down i' j' hA hj'
      have newcount : cnt ops.size (listed.setIfInBounds i true) = fuel := by
        have := cnt_set ops.size listed hls hlt hun
        have := I.count
        omega
      have newsize : (listed.setIfInBounds i true).size = ops.size := by simp [I.size]
      have mono0 : ∀ k, k ≤ ops.size → (T 0).next ≤ (T k).next := fun k hk => (d.mono (Nat.zero_le k) hk).next
      have hagain : ∀ ρ' m' v cv w', ρ.le ρ' → VR ρ' v cv → E (i + 1) = (E i).putO o.dst v → m' ≤ ops.size → (m' = ops.size ∨ (barB ops (ancs ops.toList []) m' = true ∧ (listed.setIfInBounds i true).getD m' false = false)) →
          (∀ j, j < m' → barB ops (ancs ops.toList []) j = true → (listed.setIfInBounds i true).getD j false = true) → Step P ρ0 (T 0) w0 ρ' (T m') w' →
          (∀ b L loc, ρ' b L = some loc → ρ b L = none → (T i).next ≤ b ∧ b < (T (i + 1)).next ∨ ∀ k, k < ops.size → k ≠ i → listed.getD k false = false → ¬ ((T k).next ≤ b ∧ b < (T (k + 1)).next)) →
          wpAny P .any ops Q fuel (listed.setIfInBounds i true) (a.put o.dst cv) w' := by
        intro ρ' m' v cv w' hle hv he hm1 hm2 hm3 hst hnew
        refine ih _ ρ' m' _ w' ⟨newsize, newcount, newdown, hm1, hm2, hm3, hst, fun k hk hku b L hb1 hb2 => ?_, newtmps ρ' v cv hle hv he, (put_size a o.dst cv).trans I.tsz, (put_defers a o.dst cv).trans I.defers⟩
        rw [getD_set hls] at hku
        split at hku
        · cases hku
        · rename_i hki
          have h0 := I.keys k hk hku b L hb1 hb2
          cases hc : ρ' b L with
          | none => rfl
          | some loc =>
            exfalso
            rcases hnew b L loc hc h0 with ⟨g1, g2⟩ | g
            · rcases Nat.lt_or_gt_of_ne hki with q | q
              · have := (d.mono (show k + 1 ≤ i by omega) (by omega)).next
                omega
              · have := (d.mono (show i + 1 ≤ k by omega) (by omega)).next
                omega
            · exact g k hk hki hku ⟨hb1, hb2⟩
      have hkeep : m ≠ i → (m = ops.size ∨ (barB ops (ancs ops.toList []) m = true ∧ (listed.setIfInBounds i true).getD m false = false)) := fun hmi => I.mbar.imp id fun ⟨h1, h2⟩ => ⟨h1, by rw [getD_set hls, if_neg hmi]; exact h2⟩
      have hkeep2 : ∀ j, j < m → barB ops (ancs ops.toList []) j = true → (listed.setIfInBounds i true).getD j false = true := fun j hj hb => by
        rw [getD_set hls]
        split
        · rfl
        · exact I.mlow j hj hb
      have hfm : Fresh ρ0 (T 0) (T m) := hf0.left (d.mono I.mle (Nat.le_refl _)).next
      unfold wpOp
      simp only [ho]
      rw [wants_eq hlook]
      by_cases hmi : m = i
      · -- the next barrier is carried out
        subst hmi
        have hbar : barB ops (ancs ops.toList []) m = true := by
          rcases I.mbar with e | h
          · omega
          · exact h.1
        obtain ⟨_, hfull⟩ := bar_full hbar
        have hex : ∀ q k, q + k = ops.size → ∃ m', k ≤ m' ∧ m' ≤ ops.size ∧ (m' = ops.size ∨ barB ops (ancs ops.toList []) m' = true) ∧ ∀ j, k ≤ j → j < m' → barB ops (ancs ops.toList []) j = false := by
          intro q
          induction q with
          | zero => intro k hk; exact ⟨k, Nat.le_refl _, by omega, .inl (by omega), fun j h1 h2 => by omega⟩
          | succ q ihq =>
            intro k hk
            cases hb : barB ops (ancs ops.toList []) k with
            | true => exact ⟨k, Nat.le_refl _, by omega, .inr hb, fun j h1 h2 => by omega⟩
            | false =>
              obtain ⟨m', h1, h2, h3, h4⟩ := ihq (k + 1) (by omega)
              refine ⟨m', by omega, h2, h3, fun j g1 g2 => ?_⟩
              by_cases e : j = k
              · subst e; exact hb
              · exact h4 j (by omega) g2
        obtain ⟨m', g1, g2, g3, g4⟩ := hex (ops.size - (m + 1)) (m + 1) (by omega)
        have gbar : m' = ops.size ∨ (barB ops (ancs ops.toList []) m' = true ∧ (listed.setIfInBounds m true).getD m' false = false) := by
          rcases g3 with e | hb
          · exact .inl e
          · by_cases e : m' = ops.size
            · exact .inl e
            · right
              refine ⟨hb, ?_⟩
              rw [getD_set hls, if_neg (by omega)]
              obtain ⟨⟨o', ho', hp'⟩, _⟩ := bar_full hb
              by_cases q : listed.getD m' false = true
              · have := I.down _ _ ((hfull m' o' (by omega) ho' hp').2 (by omega)) q
                rw [hun] at this; cases this
              · simpa using q
        have glow : ∀ j, j < m' → barB ops (ancs ops.toList []) j = true → (listed.setIfInBounds m true).getD j false = true := fun j hj hb => by
          rw [getD_set hls]
          split
          · rfl
          · rename_i hjm
            by_cases q : j < m
            · exact I.mlow j q hb
            · rw [g4 j (by omega) hj] at hb; cases hb
        have gmono := d.mono g1 g2
        have gagree := d.agree g1 g2 g4
        -- what the barrier does
        have after : ∀ ρ' v cv w', VR ρ' v cv → E (m + 1) = (E m).putO o.dst v → Step P ρ (T m) w ρ' (T (m + 1)) w' → wpAny P .any ops Q fuel (listed.setIfInBounds m true) (a.put o.dst cv) w' := by
          intro ρ' v cv w' hv he st
          have st2 := I.step.trans hfm st
          have nokey : ∀ b L loc, ρ' b L = some loc → (T (m + 1)).next ≤ b → b < (T m').next → False := by
            intro b L loc hb h1 h2
            -- it lies in the range of an operation between
            have hrange : ∀ q k, m + 1 ≤ k → k + q = m' → (T k).next ≤ b → ∃ j, k ≤ j ∧ j < m' ∧ (T j).next ≤ b ∧ b < (T (j + 1)).next := by
              intro q
              induction q with
              | zero =>
                intro k _ hk hb0
                have e : k = m' := by omega
                subst e
                omega
              | succ q ihq =>
                intro k hk1 hk hb0
                by_cases e : b < (T (k + 1)).next
                · exact ⟨k, Nat.le_refl _, by omega, hb0, e⟩
                · obtain ⟨j, a1, a2, a3, a4⟩ := ihq (k + 1) (by omega) (by omega) (by omega)
                  exact ⟨j, by omega, a2, a3, a4⟩
            obtain ⟨j, a1, a2, a3, a4⟩ := hrange (m' - (m + 1)) (m + 1) (Nat.le_refl _) (by omega) h1
            have hjo := Array.getElem?_eq_getElem (show j < ops.size by omega)
            have hun2 : listed.getD j false = false := by
              by_cases q : listed.getD j false = true
              · cases hp : isP (ops[j]'(by omega)).op with
                | true =>
                  have := d.pureStep hjo (.inl hp)
                  rw [this] at a4
                  omega
                | false =>
                  have := I.down _ _ ((hfull j _ (by omega) hjo hp).2 (by omega)) q
                  rw [hun] at this; cases this
              · simpa using q
            have h0 := I.keys j (by omega) hun2 b L a3 a4
            obtain ⟨a5, _⟩ := st.new b L loc hb h0
            have := (d.mono1 hlt).next
            omega
          refine hagain ρ' m' v cv w' st.ext hv he g2 gbar glow ?_ ?_
          · refine ⟨st2.ext, st2.env, st2.rel.lift fun b L loc blk k g => ?_, st2.hsz, mono0 m' g2, (d.mono (Nat.zero_le m') g2).low, fun b L loc h1 h2 => ?_, fun mm B hm1 hm2 hB hk => ?_⟩
            · by_cases q : b < (T (m + 1)).next
              · rw [← gagree b q]; exact g
              · by_cases q2 : b < (T m').next
                · exact (nokey b L loc k (by omega) q2).elim
                · rw [d.wfk g2 b (by omega)] at g
                  cases g
            · obtain ⟨a1, a2⟩ := st2.new b L loc h1 h2
              have i1 := gmono.next
              have i2 := gmono.low
              refine ⟨by clear a2; omega, ?_⟩
              rcases a2 with a2 | ⟨b0, L0, loc0, c0, c4, c1⟩
              · exact .inl a2
              · exact .inr ⟨b0, L0, loc0, c0, Nat.le_trans i2 c4, c1⟩
            · exact st2.keep mm B hm1 (Nat.le_trans hm2 gmono.low) hB hk
          · intro b L loc h1 h2
            obtain ⟨a1, _⟩ := st.new b L loc h1 h2
            rcases a1 with a1 | a1
            · exact .inl a1
            · right
              intro k hk hkm hku
              rintro ⟨c1, c2⟩
              have hko := Array.getElem?_eq_getElem hk
              cases hp : isP (ops[k]).op with
              | true =>
                have := d.pureStep hko (.inl hp)
                rw [this] at c2
                omega
              | false =>
                by_cases q : k < m
                · have := hanc k ((hfull k _ hkm hko hp).1 q)
                  rw [hku] at this; cases this
                · have := (d.mono (show m ≤ k by omega) (by omega)).next
                  have := a1.1
                  omega
        split
        · rename_i hw
          left
          have hfl : (flagsOf ops).getD m false = false := by rw [flag_at hlt, hbar]; rfl
          rw [hfl] at htm
          unfold astep at htm
          rw [if_pos hw] at htm
          simp only at htm
          split at htm
          case h_2 => cases htm
          rename_i v S1 hrun
          simp only [Option.some.injEq, Prod.mk.injEq] at htm
          obtain ⟨he, hT⟩ := htm
          subst hT
          exact run_sim d.cs I.step.rel (d.wfk (Nat.le_of_lt hlt)) (oper_ok hokO) (fun t hm => hlook t (List.mem_append_left _ (List.mem_filterMap.2 ⟨.tmp t, by simpa using hm, rfl⟩))) (fun b L h1 h2 => I.keys m hlt hun b L h1 h2) hrun fun ρ' cv w' hv st => after ρ' v cv w' hv he.symm st
        · rename_i hw
          unfold astep at htm
          rw [if_neg hw] at htm
          simp only [Option.some.injEq, Prod.mk.injEq] at htm
          obtain ⟨he, hT⟩ := htm
          exact after ρ undef undef w (vr_undef ρ) he.symm (hT ▸ Step.refl I.step.rel)
      · -- it is no barrier
        have hnb : barB ops (ancs ops.toList []) i = false := by
          cases hb : barB ops (ancs ops.toList []) i with
          | false => rfl
          | true =>
            exfalso
            by_cases q : i < m
            · rw [I.mlow i q hb] at hun; cases hun
            · rcases I.mbar with e | ⟨h1, h2⟩
              · omega
              · obtain ⟨⟨o', ho', hp'⟩, _⟩ := bar_full hb
                rw [ho] at ho'
                cases ho'
                have := hanc m (((bar_full h1).2 i o (Ne.symm hmi) ho hp').2 (by omega))
                rw [this] at h2; cases h2
        have hfl : (flagsOf ops).getD i false = true := by rw [flag_at hlt, hnb]; rfl
        split
        · rename_i hw
          left
          rw [hfl] at htm
          unfold astep at htm
          rw [if_pos hw] at htm
          simp only at htm
          split at htm
          case h_2 => cases htm
          rename_i v S1 hrun
          split at htm
          case isFalse => cases htm
          rename_i hl
          simp only [Option.some.injEq, Prod.mk.injEq] at htm
          obtain ⟨he, hT⟩ := htm
          have hops : ∀ t, Operand.tmp t ∈ o.op.operands → VR ρ ((E i).get t) (a.tmps.getD t undef) := fun t hm => hlook t (List.mem_append_left _ (List.mem_filterMap.2 ⟨.tmp t, by simpa using hm, rfl⟩))
          cases hp : isP o.op with
          | true =>
            obtain ⟨_, hany⟩ := pure_run hp hrun
            refine run_sim (S := (T m).withLow (T m).next) (S' := (T m).withLow (T m).next) d.cs (I.step.rel.same rfl rfl) (d.wfk I.mle) (oper_ok hokO) hops (fun b L h1 h2 => absurd h2 (Nat.not_lt_of_le h1)) (hany _) fun ρ' cv w' hv st => ?_
            have st2 := step_flag st (Nat.le_refl _)
            refine hagain ρ' m v cv w' st.ext hv he.symm I.mle (hkeep hmi) hkeep2 (I.step.trans hfm st2) ?_
            intro b L loc h1 h2
            obtain ⟨a1, _⟩ := st.new b L loc h1 h2
            exfalso
            rcases a1 with ⟨c1, c2⟩ | ⟨c1, c2⟩
            · exact absurd c2 (Nat.not_lt_of_le c1)
            · exact absurd c1 (Nat.not_lt_of_le c2)
          | false =>
            have him : i < m := by
              rcases I.mbar with e | ⟨h1, h2⟩
              · omega
              · by_cases q : i < m
                · exact q
                · exfalso
                  have := hanc m (((bar_full h1).2 i o (Ne.symm hmi) ho hp).2 (by omega))
                  rw [this] at h2; cases h2
            -- no barrier lies between
            have hnone : ∀ j, i ≤ j → j < m → barB ops (ancs ops.toList []) j = false := by
              intro j h1 h2
              cases hb : barB ops (ancs ops.toList []) j with
              | false => rfl
              | true =>
                exfalso
                have hji : j ≠ i := fun e => by rw [e, hnb] at hb; cases hb
                have := I.down _ _ (((bar_full hb).2 i o (Ne.symm hji) ho hp).1 (by omega)) (I.mlow j h2 hb)
                rw [hun] at this; cases this
            have agr1 := d.agree (Nat.le_of_lt him) I.mle hnone
            have agr2 := d.agree (show i + 1 ≤ m by omega) I.mle (fun j h1 h2 => hnone j (by omega) h2)
            have mono2 := d.mono (show i + 1 ≤ m by omega) I.mle
            have rel_i : Rel P ρ (T i) w := I.step.rel.lift fun b L loc blk k g => by
              have hb : b < (T i).next := by
                by_cases q : b < (T i).next
                · exact q
                · rw [d.wfk (Nat.le_of_lt hlt) b (by omega)] at g
                  cases g
              rw [agr1 b hb]; exact g
            have hfr : Fresh ρ ((T i).withLow (T i).next) S1 := fun b L h1 h2 => by
              refine I.keys i hlt hun b L h1 ?_
              rw [← hT]
              exact h2
            refine run_sim (S := (T i).withLow (T i).next) (S' := S1) d.cs (rel_i.same rfl rfl) (d.wfk (Nat.le_of_lt hlt)) (oper_ok hokO) hops hfr hrun fun ρ' cv w' hv st => ?_
            have heap : ∀ B, B < w.heap.size → w'.heap[B]? = w.heap[B]? := fun B hB => st.keep (T i).next B (Nat.le_refl _) hl hB fun b L loc _ _ h1 h2 => absurd h2 (Nat.not_lt_of_le h1)
            have hnx : (T (i + 1)).next = S1.next := by rw [← hT]; rfl
            have hgt : (T (i + 1)).get = S1.get := by rw [← hT]; rfl
            have hnew : ∀ b L loc, ρ' b L = some loc → ρ b L = none → (T i).next ≤ b ∧ b < (T (i + 1)).next := by
              intro b L loc h1 h2
              obtain ⟨a1, _⟩ := st.new b L loc h1 h2
              rcases a1 with ⟨c1, c2⟩ | ⟨c1, c2⟩
              · exact ⟨c1, by rw [hnx]; exact c2⟩
              · exact absurd (Nat.lt_of_lt_of_le c1 hl) (Nat.not_lt_of_le c2)
            refine hagain ρ' m v cv w' st.ext hv he.symm I.mle (hkeep hmi) hkeep2 ?_ (fun b L loc h1 h2 => .inl (hnew b L loc h1 h2))
            have hnewB : ∀ b L loc, ρ' b L = some loc → ρ b L = none → w.heap.size ≤ loc.B := by
              intro b L loc h1 h2
              rcases (st.new b L loc h1 h2).2 with a2 | ⟨b0, L0, loc0, c0, c4, _⟩
              · exact a2
              · exact absurd (Nat.lt_of_lt_of_le (show b0 < (T i).next from c0) hl) (Nat.not_lt_of_le c4)
            refine ⟨Ren.le_trans I.step.ext st.ext, I.step.env.trans st.env, ⟨st.rel.glob, st.rel.loc, fun b L loc blk k g => ?_, fun b1 L1 l1 b2 L2 l2 k1 k2 o e al1 al2 => ?_⟩, Nat.le_trans I.step.hsz st.hsz, I.step.next, I.step.low, fun b L loc h1 h2 => ?_, fun mm B hm1 hm2 hB hk => ?_⟩
            · by_cases q : b < (T (i + 1)).next
              · rw [agr2 b q, hgt] at g
                exact st.rel.blk b L loc blk k g
              · cases hc : ρ b L with
                | none => have := (hnew b L loc k hc).2; omega
                | some loc' =>
                  have e := st.ext _ _ _ hc
                  rw [k] at e
                  cases e
                  have r := I.step.rel.blk b L loc blk hc g
                  have hB := I.step.rel.loc b L loc hc
                  refine ⟨r.own, fun ow => ?_, fun al j u h1 h2 h3 => ?_⟩
                  · obtain ⟨q1, q2, q3, C, fr, q4, q5⟩ := r.row ow
                    exact ⟨q1, q2, q3, C, fr, by rw [heap _ hB]; exact q4, q5⟩
                  · obtain ⟨A, u', e1, e2, e3⟩ := r.cells al j u h1 h2 h3
                    refine ⟨A, u', e1, ?_, e3.mono st.ext⟩
                    unfold World.cell? at *
                    rw [heap _ hB]
                    exact e2
            · -- no two blocks lie in one
              have alS1 : ∀ {b L}, b < (T (i + 1)).next → Alive (T m) b L → Alive S1 b L := by
                rintro b L hb ⟨blk, g1, g2⟩
                rw [agr2 b hb, hgt] at g1
                exact ⟨blk, g1, g2⟩
              cases hc1 : ρ b1 L1 with
              | some l1' =>
                have e1 := st.ext _ _ _ hc1
                rw [k1] at e1
                cases e1
                cases hc2 : ρ b2 L2 with
                | some l2' =>
                  have e2 := st.ext _ _ _ hc2
                  rw [k2] at e2
                  cases e2
                  exact I.step.rel.inj _ _ _ _ _ _ hc1 hc2 o e al1 al2
                | none =>
                  have := hnewB _ _ _ k2 hc2
                  have := I.step.rel.loc _ _ _ hc1
                  omega
              | none =>
                cases hc2 : ρ b2 L2 with
                | some l2' =>
                  have e2 := st.ext _ _ _ hc2
                  rw [k2] at e2
                  cases e2
                  have := hnewB _ _ _ k1 hc1
                  have := I.step.rel.loc _ _ _ hc2
                  omega
                | none => exact st.rel.inj _ _ _ _ _ _ k1 k2 o e (alS1 (hnew _ _ _ k1 hc1).2 al1) (alS1 (hnew _ _ _ k2 hc2).2 al2)
            · cases hc : ρ b L with
              | some loc' =>
                have e := st.ext _ _ _ hc
                rw [h1] at e
                cases e
                exact I.step.new b L loc hc h2
              | none =>
                obtain ⟨a1, a2⟩ := st.new b L loc h1 hc
                have hn := hnew b L loc h1 hc
                have := mono0 i (Nat.le_of_lt hlt)
                have := mono2.next
                exact ⟨.inl ⟨by clear a2; omega, by clear a2; omega⟩, .inl (Nat.le_trans I.step.hsz (hnewB b L loc h1 hc))⟩
            · rw [heap B (Nat.lt_of_lt_of_le hB I.step.hsz)]
              exact I.step.keep mm B hm1 hm2 hB hk
        · rename_i hw
          unfold astep at htm
          rw [if_neg hw] at htm
          simp only [Option.some.injEq, Prod.mk.injEq] at htm
          exact hagain ρ m undef undef w (Ren.le_refl ρ) (vr_undef ρ) htm.1.symm I.mle (hkeep hmi) hkeep2 I.step (fun b L loc h1 h2 => by rw [h1] at h2; cases h2)
end
end Go.Proofs.YtdfgdpjlbcnkfaaDoorAbs
namespace Go.Proofs.YtdfgdpjlbcnkfaaDoorAbs
set_option linter.unusedVariables false
set_option linter.unusedSimpArgs false

section
variable {P : Program} {call : CallF}
theorem draw_sim (hc : CallSim P call) (hm : P.follows .mixedOrders = true) {id : Nat} {ops : Array Oper} {N : Nat} {ρ : Ren} {S S' : St} {w : World} {e e' : Env} {a : Act}
    (hok : ∀ o ∈ ops.toList, okOper P N o = true) (hd : drawOk ops = true) (h : Rel P ρ S w) (hwf : S.WF) (he : EnvR ρ e a) (hN : a.tmps.size = N) (hdf : a.defers = []) (hf : Fresh ρ S S')
    (hr : aops P call ops ops.toList (flagsOf ops) e S = some (e', S')) : (Code.region id ops true).wp P (Post P N ρ S w .normal e' S') a w := by
  obtain ⟨E, T, h1, h2, h3, h4, h5⟩ := aops_trace ops.toList (flagsOf ops) hr
  subst h1 h2 h3 h4
  have d : Draw P call ops E T N := ⟨hc, hok, hd, fun k o ho => h5 k o (by simpa using ho), hwf⟩
  refine wp_region_any hm ?_
  have hlen : ops.toList.length = ops.size := by simp
  rw [hlen] at hf
  -- the first barrier
  have hex : ∀ q k, q + k = ops.size → ∃ m', k ≤ m' ∧ m' ≤ ops.size ∧ (m' = ops.size ∨ barB ops (ancs ops.toList []) m' = true) ∧ ∀ j, k ≤ j → j < m' → barB ops (ancs ops.toList []) j = false := by
    intro q
    induction q with
    | zero => intro k hk; exact ⟨k, Nat.le_refl _, by omega, .inl (by omega), fun j h1 h2 => by omega⟩
    | succ q ihq =>
      intro k hk
      cases hb : barB ops (ancs ops.toList []) k with
      | true => exact ⟨k, Nat.le_refl _, by omega, .inr hb, fun j h1 h2 => by omega⟩
      | false =>
        obtain ⟨m', h1, h2, h3, h4⟩ := ihq (k + 1) (by omega)
        refine ⟨m', by omega, h2, h3, fun j g1 g2 => ?_⟩
        by_cases e : j = k
        · subst e; exact hb
        · exact h4 j (by omega) g2
  obtain ⟨m, g1, g2, g3, g4⟩ := hex ops.size 0 (by omega)
  have hun : ∀ i, (Array.replicate ops.size false).getD i false = false := fun i => by
    simp only [Array.getD_eq_getD_getElem?, Array.getElem?_replicate]
    split <;> rfl
  have hcnt : ∀ k, k ≤ ops.size → cnt k (Array.replicate ops.size false) = k := by
    intro k
    induction k with
    | zero => intro _; rfl
    | succ k ih => intro hk; rw [cnt, hun, ih (by omega)]; simp
  have hTX : ∀ k t, TX ops E (Array.replicate ops.size false) k t = (E 0).get t := by
    intro k t
    induction k with
    | zero => rfl
    | succ k ih => rw [TX, hun, if_neg (by simp)]; exact ih
  have hmono := d.mono g1 g2
  have hst : Step P ρ (T 0) w ρ (T m) { w with drawn := w.drawn + 1 } := by
    refine ⟨Ren.le_refl ρ, ⟨rfl, rfl, rfl⟩, (h.same (w' := { w with drawn := w.drawn + 1 }) (S' := T 0) rfl rfl).lift fun b L loc blk k g => ?_, Nat.le_refl _, hmono.next, hmono.low, fun b L loc h1 h2 => (by rw [h1] at h2; cases h2), fun _ _ _ _ _ _ => rfl⟩
    by_cases q : b < (T 0).next
    · rw [← d.agree g1 g2 g4 b q]; exact g
    · by_cases q2 : b < (T m).next
      · rw [hf b L (by omega) (Nat.lt_of_lt_of_le q2 (d.mono g2 (Nat.le_refl _)).next)] at k
        cases k
      · rw [d.wfk g2 b (by omega)] at g
        cases g
  refine draw_all d hf (Q := Post P N ρ (T 0) w .normal (E ops.toList.length) (T ops.toList.length)) ?_ ops.size _ ρ m a _ ⟨by simp, hcnt _ (Nat.le_refl _), fun i j _ hj => (by rw [hun] at hj; cases hj), g2, ?_, fun i hi hb => (by rw [g4 i (Nat.zero_le i) hi] at hb; cases hb), hst, ?_, fun t => ?_, hN, hdf⟩
  · intro ρ' a' w' q1 q2 q3 q4
    exact ⟨rfl, q3, q2, ρ', by rw [hlen]; exact q1, by rw [hlen]; exact q4⟩
  · exact g3.imp (fun x => x) fun hb => ⟨hb, hun m⟩
  · intro k hk _ b L hb1 hb2
    have := (d.mono (Nat.zero_le k) (by omega)).next
    have := (d.mono (show k + 1 ≤ ops.size by omega) (Nat.le_refl _)).next
    exact hf b L (by omega) (by omega)
  · rw [hTX]; exact he t

/-! ## Code -/
inductive AExit where
  | normal
  | ret
  | exit (id : Nat)
def AExit.toExit : AExit → Exit
  | .normal => .normal
  | .ret => .ret
  | .exit id => .exit id
def aloop (body : Env → St → Option (AExit × Env × St)) : Nat → Env → St → Option (AExit × Env × St)
  | 0, _, _ => none
  | k + 1, e, S =>
    match body e S with
    | some (.normal, e', S') => aloop body k e' S'
    | r => r
def acode (P : Program) (call : CallF) (fuel : Nat) : Code → Env → St → Option (AExit × Env × St)
  | .skip, e, S => some (.normal, e, S)
  | .region _ ops draw, e, S =>
    match aops P call ops ops.toList (if draw = true then flagsOf ops else []) e S with
    | some (e', S') => some (.normal, e', S')
    | none => none
  | .seq a b, e, S =>
    match acode P call fuel a e S with
    | some (.normal, e', S') => acode P call fuel b e' S'
    | r => r
  | .cond c x y, e, S =>
    match e.ev c with
    | .bool true => acode P call fuel x e S
    | .bool false => acode P call fuel y e S
    | _ => none
  | .block id c, e, S =>
    match acode P call fuel c e S with
    | some (.exit id', e', S') => if id' = id then some (.normal, e', S') else some (.exit id', e', S')
    | r => r
  | .loop c, e, S => aloop (acode P call fuel c) fuel e S
  | .scope c, e, S => acode P call fuel c e S
  | .label _, e, S => some (.normal, e, S)
  | .exit id, e, S => some (.exit id, e, S)
  | .ret, e, S => some (.ret, e, S)
  | _, _, _ => none
def okCode (P : Program) (N : Nat) : Code → Bool
  | .skip => true
  | .region _ ops draw => ops.toList.all (okOper P N) && (!draw || drawOk ops)
  | .seq a b => okCode P N a && okCode P N b
  | .cond c x y => okOpnd P c && okCode P N x && okCode P N y
  | .block _ c => okCode P N c
  | .loop c => okCode P N c
  | .scope c => okCode P N c
  | .label _ => true
  | .exit _ => true
  | .ret => true
  | _ => false

theorem aloop_mono {body : Env → St → Option (AExit × Env × St)} (hb : ∀ e S x e' S', body e S = some (x, e', S') → Mono S S') : ∀ (k : Nat) {e : Env} {S : St} {x : AExit} {e' : Env} {S' : St}, aloop body k e S = some (x, e', S') → Mono S S'
  | 0, _, _, _, _, _, h => by cases h
  | k + 1, e, S, x, e', S', h => by
    unfold aloop at h
    split at h
    · rename_i e1 S1 h1
      exact (hb _ _ _ _ _ h1).trans (aloop_mono hb k h)
    · exact hb _ _ _ _ _ h
theorem acode_mono (hc : CallSim P call) {fuel : Nat} : ∀ (c : Code) {e : Env} {S : St} {x : AExit} {e' : Env} {S' : St}, acode P call fuel c e S = some (x, e', S') → Mono S S' := by
  intro c
  induction c with
  | skip => intro e S x e' S' h; cases h; exact Mono.refl _
  | region id ops draw =>
    intro e S x e' S' h
    unfold acode at h
    split at h
    · cases h; exact aops_mono hc _ _ (by assumption)
    · cases h
  | seq a b iha ihb =>
    intro e S x e' S' h
    unfold acode at h
    split at h
    · rename_i h1
      exact (iha h1).trans (ihb h)
    · exact iha h
  | cond c x y ihx ihy =>
    intro e S z e' S' h
    unfold acode at h
    split at h
    · exact ihx h
    · exact ihy h
    · cases h
  | block id c ih =>
    intro e S x e' S' h
    unfold acode at h
    split at h
    · rename_i h1
      split at h <;> (cases h; exact ih h1)
    · exact ih h
  | loop c ih =>
    intro e S x e' S' h
    unfold acode at h
    exact aloop_mono (fun e S x e' S' h => ih h) fuel h
  | exit id => intro e S x e' S' h; cases h; exact Mono.refl _
  | scope c ih =>
    intro e S x e' S' h
    unfold acode at h
    exact ih h
  | label l => intro e S x e' S' h; cases h; exact Mono.refl _
  | ret => intro e S x e' S' h; cases h; exact Mono.refl _
  | _ => intro e S x e' S' h; simp [acode] at h

theorem post_trans {N : Nat} {ρ ρ1 : Ren} {S S1 S' : St} {w w1 : World} {y : Exit} {e' : Env} (st : Step P ρ S w ρ1 S1 w1) (hf : Fresh ρ S S1) {y' : Exit} {a' : Act} {w' : World} (h : Post P N ρ1 S1 w1 y e' S' y' a' w') : Post P N ρ S w y e' S' y' a' w' := by
  obtain ⟨q1, q2, q3, ρ2, q4, q5⟩ := h
  exact ⟨q1, q2, q3, ρ2, q4, st.trans hf q5⟩
/-- A loop in the model, round by round. -/
theorem loop_sim {N : Nat} {c : Code} {body : Env → St → Option (AExit × Env × St)} (hbm : ∀ e S x e' S', body e S = some (x, e', S') → Mono S S')
    (hb : ∀ {ρ : Ren} {S S' : St} {w : World} {e e' : Env} {a : Act} {x : AExit}, Rel P ρ S w → S.WF → EnvR ρ e a → a.tmps.size = N → a.defers = [] → Fresh ρ S S' → body e S = some (x, e', S') → c.wp P (Post P N ρ S w x.toExit e' S') a w) :
    ∀ (k : Nat) {ρ : Ren} {S S' : St} {w : World} {e e' : Env} {a : Act} {x : AExit}, Rel P ρ S w → S.WF → EnvR ρ e a → a.tmps.size = N → a.defers = [] → Fresh ρ S S' → aloop body k e S = some (x, e', S') →
      ∀ (b : Frame) (kk : List Item) (cs : List Frame), ∃ y a' w', Post P N ρ S w x.toExit e' S' y a' w' ∧ Arrives P (lone (b.at a (.code c :: .inLoop c :: kk)) cs w) b kk cs y a' w'
  | 0, _, _, _, _, _, _, _, _, _, _, _, _, _, _, h => by cases h
  | k + 1, ρ, S, S', w, e, e', a, x, h, hwf, he, hN, hd, hf, hr => by
    intro b kk cs
    unfold aloop at hr
    split at hr
    · rename_i e1 S1 h1
      have m1 := hbm _ _ _ _ _ h1
      have m2 := aloop_mono hbm k hr
      obtain ⟨y, a1, w1, ⟨q1, q2, q3, ρ1, q4, q5⟩, harr⟩ := hb h hwf he hN hd (hf.left m2.next) h1 b (.inLoop c :: kk) cs
      cases q1
      obtain ⟨y2, a2, w2, hp, harr2⟩ := loop_sim hbm hb k q5.rel (m1.wf hwf) q4 q3 q2 (hf.right q5) hr b kk cs
      exact ⟨y2, a2, w2, post_trans q5 (hf.left m2.next) hp, .of_steps (Steps.trans harr (.one step_inLoop)) harr2⟩
    · rename_i hnn
      obtain ⟨y, a1, w1, hp, harr⟩ := hb h hwf he hN hd hf hr b (.inLoop c :: kk) cs
      refine ⟨y, a1, w1, hp, ?_⟩
      obtain ⟨q1, _⟩ := hp
      have hy : y ≠ .normal := by
        rw [q1]
        cases x with
        | normal => exact absurd hr (hnn e' S')
        | ret => simp [AExit.toExit]
        | exit id => simp [AExit.toExit]
      exact .pass (x := .inLoop c) rfl (fun _ _ => .inl hy) harr
theorem acode_sim (hc : CallSim P call) (hm : P.follows .mixedOrders = true) {N fuel : Nat} : ∀ (c : Code), okCode P N c = true → ∀ {ρ : Ren} {S S' : St} {w : World} {e e' : Env} {a : Act} {x : AExit}, Rel P ρ S w → S.WF → EnvR ρ e a → a.tmps.size = N → a.defers = [] → Fresh ρ S S' →
    acode P call fuel c e S = some (x, e', S') → c.wp P (Post P N ρ S w x.toExit e' S') a w := by
  intro c
  induction c with
  | skip =>
    intro hok ρ S S' w e e' a x h hwf he hN hd hf hr
    cases hr
    exact wp_skip ⟨rfl, hd, hN, ρ, he, Step.refl h⟩
  | region id ops draw =>
    intro hok ρ S S' w e e' a x h hwf he hN hd hf hr
    unfold okCode at hok
    rw [Bool.and_eq_true, List.all_eq_true] at hok
    unfold acode at hr
    split at hr
    case h_2 => cases hr
    rename_i e1 S1 hst
    cases hr
    cases draw with
    | false => exact wp_region_list (aops_sim hc ops.toList _ hok.1 h hwf he hN hd hf hst)
    | true =>
      have hd2 : drawOk ops = true := by simpa using hok.2
      exact draw_sim hc hm hok.1 hd2 h hwf he hN hd hf (by simpa using hst)
  | seq c1 c2 ih1 ih2 =>
    intro hok ρ S S' w e e' a x h hwf he hN hd hf hr
    unfold okCode at hok
    rw [Bool.and_eq_true] at hok
    unfold acode at hr
    split at hr
    · rename_i e1 S1 h1
      have m1 := acode_mono hc c1 h1
      have m2 := acode_mono hc c2 hr
      refine wp_seq (wp_mono (ih1 hok.1 h hwf he hN hd (hf.left m2.next) h1) ?_)
      rintro y a1 w1 ⟨q1, q2, q3, ρ1, q4, q5⟩
      cases q1
      exact wp_mono (ih2 hok.2 q5.rel (m1.wf hwf) q4 q3 q2 (hf.right q5) hr) fun y a w hp => post_trans q5 (hf.left m2.next) hp
    · rename_i hnn
      refine wp_seq (wp_mono (ih1 hok.1 h hwf he hN hd hf hr) ?_)
      intro y a1 w1 hp
      have hy : y ≠ .normal := by
        rw [hp.1]
        cases x with
        | normal => exact absurd hr (hnn e' S')
        | ret => simp [AExit.toExit]
        | exit id => simp [AExit.toExit]
      cases y <;> first | exact absurd rfl hy | exact hp
  | cond c x y ihx ihy =>
    intro hok ρ S S' w e e' a z h hwf he hN hd hf hr
    unfold okCode at hok
    rw [Bool.and_eq_true, Bool.and_eq_true] at hok
    unfold acode at hr
    have hcv : VR ρ (e.ev c) (a.eval c) := opnd_rel h hok.1.1 fun t _ => he t
    split at hr
    · rename_i hb
      rw [hb] at hcv
      exact wp_cond_true (hcv.scalar_eq rfl) (ihx hok.1.2 h hwf he hN hd hf hr)
    · rename_i hb
      rw [hb] at hcv
      exact wp_cond_false (hcv.scalar_eq rfl) (ihy hok.2 h hwf he hN hd hf hr)
    · cases hr
  | block id c ih =>
    intro hok ρ S S' w e e' a x h hwf he hN hd hf hr
    unfold acode at hr
    split at hr
    · rename_i id' e1 S1 h1
      refine wp_block ?_
      split at hr
      · rename_i hid
        cases hr
        refine wp_mono (ih hok h hwf he hN hd hf h1) ?_
        rintro y a1 w1 ⟨q1, q2⟩
        subst q1
        simp only [AExit.toExit, Exit.inBlock, hid, if_true]
        exact ⟨rfl, q2⟩
      · rename_i hid
        cases hr
        refine wp_mono (ih hok h hwf he hN hd hf h1) ?_
        rintro y a1 w1 ⟨q1, q2⟩
        subst q1
        simp only [AExit.toExit, Exit.inBlock, hid, if_false]
        exact ⟨rfl, q2⟩
    · rename_i hnn
      refine wp_block (wp_mono (ih hok h hwf he hN hd hf hr) ?_)
      rintro y a1 w1 hp
      have hy : ∀ i, y ≠ .exit i := by
        intro i
        rw [hp.1]
        cases x with
        | normal => simp [AExit.toExit]
        | ret => simp [AExit.toExit]
        | exit id => exact absurd hr (hnn id e' S')
      cases y <;> first | exact hp | exact absurd rfl (hy _)
  | loop c ih =>
    intro hok ρ S S' w e e' a x h hwf he hN hd hf hr
    unfold acode at hr
    intro b kk cs
    obtain ⟨y, a', w', hp, harr⟩ := loop_sim (fun e S x e' S' h => acode_mono hc c h) (fun h hwf he hN hd hf hr => ih hok h hwf he hN hd hf hr) fuel h hwf he hN hd hf hr b kk cs
    exact ⟨y, a', w', hp, .of_steps (.one step_loop) harr⟩
  | scope c ih =>
    intro hok ρ S S' w e e' a x h hwf he hN hd hf hr
    unfold acode at hr
    refine wp_scope_straight (wp_mono (ih hok h hwf he hN hd hf hr) ?_)
    intro y a1 w1 hp
    have hy : ∀ l, y ≠ .goto l := fun l => by
      rw [hp.1]
      cases x <;> simp [AExit.toExit]
    cases y <;> first | exact hp | exact absurd rfl (hy _)
  | label l =>
    intro hok ρ S S' w e e' a x h hwf he hN hd hf hr
    cases hr
    exact wp_label ⟨rfl, hd, hN, ρ, he, Step.refl h⟩
  | exit id =>
    intro hok ρ S S' w e e' a x h hwf he hN hd hf hr
    cases hr
    exact wp_exit ⟨rfl, hd, hN, ρ, he, Step.refl h⟩
  | ret =>
    intro hok ρ S S' w e e' a x h hwf he hN hd hf hr
    cases hr
    exact wp_ret ⟨rfl, hd, hN, ρ, he, Step.refl h⟩
  | _ => intro hok; simp [okCode] at hok
end
end Go.Proofs.YtdfgdpjlbcnkfaaDoorAbs
namespace Go.Proofs.YtdfgdpjlbcnkfaaDoorAbs
set_option linter.unusedVariables false
set_option linter.unusedSimpArgs false

/-! ## Calls -/
def aresL (P : Program) (S : St) (e : Env) : List ResultVar → Option (List Value)
  | [] => some []
  | .tmp t :: r => match aresL P S e r with
    | some vs => some (e.get t :: vs)
    | none => none
  | .cell a t :: r => match aload P S t (e.get a), aresL P S e r with
    | some v, some vs => some (v :: vs)
    | _, _ => none
def pack : List Value → Value
  | [v] => v
  | vs => .tuple vs.toArray
/-- Functions that are taken by their contracts. -/
abbrev Prims := Nat → FuncId → Option (Array Value → St → Option (Value × St))
def acall (P : Program) (I : Prims) : Nat → CallF
  | 0 => fun _ _ _ => none
  | k + 1 => fun f args S =>
    match I k f with
    | some p => p args S
    | none =>
      match P.funcs[f]? with
      | none => none
      | some fn =>
        match fn.body with
        | none => none
        | some c =>
          if okCode P (max args.size fn.ntmps) c = true then
            match acode P (acall P I k) k c ⟨argEnv 0 args.toList⟩ S with
            | some (.normal, e, S') => match aresL P S' e fn.results.toList with
              | some vs => some (pack vs, S')
              | none => none
            | some (.ret, e, S') => match aresL P S' e fn.results.toList with
              | some vs => some (pack vs, S')
              | none => none
            | _ => none
          else none
structure PrimSim (P : Program) (I : Prims) : Prop where
  mono : ∀ k f p, I k f = some p → ∀ xs S v S', p xs S = some (v, S') → Mono S S'
  sim : ∀ k f p, I k f = some p → ∀ xs S v S', p xs S = some (v, S') → ∀ (ρ : Ren) (w : World) (ys : Array Value), Rel P ρ S w → S.WF → VRL ρ xs.toList ys.toList → Fresh ρ S S' →
    Calls P f ys w fun e w' => ∃ ρ' cv, e = .returned cv ∧ VR ρ' v cv ∧ Step P ρ S w ρ' S' w'

section
variable {P : Program} {I : Prims}
theorem lk_args : ∀ (vs : List Value) (k t : Nat), lk (argEnv k vs) t = if k ≤ t then (vs[t - k]?).getD undef else undef
  | [], k, t => by simp [argEnv, lk]
  | v :: vs, k, t => by
    unfold argEnv
    unfold lk
    by_cases e : t = k
    · subst e; simp
    · rw [if_neg e, lk_args vs (k + 1) t]
      by_cases h : k ≤ t
      · rw [if_pos h, if_pos (by omega), show t - k = (t - (k + 1)) + 1 by omega]
        simp
      · rw [if_neg h, if_neg (by omega)]
theorem args_env {ρ : Ren} {xs ys : Array Value} (h : VRL ρ xs.toList ys.toList) (n : Nat) : EnvR ρ ⟨argEnv 0 xs.toList⟩ { tmps := ys ++ Array.replicate n undef, defers := [] } := by
  intro t
  simp only [Env.get, lk_args, Nat.zero_le, if_true, Nat.sub_zero, Array.getD_eq_getD_getElem?]
  have hl : xs.size = ys.size := by simpa using h.1
  by_cases ht : t < xs.size
  · have e1 : xs.toList[t]? = some (xs[t]) := by simp [ht]
    obtain ⟨v', e2, k⟩ := h.get e1
    have e3 : ys[t]? = some v' := by simpa using e2
    rw [e1, Array.getElem?_append_left (by omega), e3]
    exact k
  · have e1 : xs.toList[t]? = none := by simp; omega
    rw [e1, Array.getElem?_append_right (by omega), Array.getElem?_replicate]
    split <;> exact vr_undef ρ
theorem load_run {ρ : Ren} {S : St} {w : World} {t : TypeId} {p p' v : Value} (h : Rel P ρ S w) (hp : VR ρ p p') (hl : aload P S t p = some v) : ∃ a' v', p' = .pointer (some a') ∧ (loadVar t a').run P w = .ok v' w ∧ VR ρ v v' := by
  obtain ⟨v', hr, hv⟩ := sim_load h hp hl
  unfold aload at hl
  split at hl
  · obtain ⟨L, loc, A, ha, h1, h2, h3, rfl⟩ := hp.ptr_inv
    refine ⟨_, v', rfl, ?_, hv⟩
    simpa only [Instr.loadAt, Instr.sureAddr, Sem.run_bind, Sem.run_pure, Result.andThen_ok] using hr
  · cases hl
theorem res_sim {ρ : Ren} {S : St} {w : World} {e : Env} {a : Act} {f : ResultVar → Sem Value} (hf1 : ∀ t, f (.tmp t) = pure (a.tmps.getD t undef)) (hf2 : ∀ q t, f (.cell q t) = do loadVar t (← asAddr (a.tmps.getD q undef)))
    (h : Rel P ρ S w) (he : EnvR ρ e a) : ∀ (l : List ResultVar) {vs : List Value}, aresL P S e l = some vs → ∃ ws, (l.mapM f).run P w = .ok ws w ∧ VRL ρ vs ws
  | [], vs, hr => by
    cases hr
    exact ⟨[], by simp [Sem.run_pure], VRL.nil ρ⟩
  | .tmp t :: r, vs, hr => by
    unfold aresL at hr
    split at hr
    case h_2 => cases hr
    rename_i us hu
    cases hr
    obtain ⟨ws, k1, k2⟩ := res_sim hf1 hf2 h he r hu
    refine ⟨_ :: ws, ?_, VRL.cons (he t) k2⟩
    simp only [List.mapM_cons, Sem.run_bind, hf1, Sem.run_pure, Result.andThen_ok, k1]
  | .cell q t :: r, vs, hr => by
    unfold aresL at hr
    split at hr
    case h_2 => cases hr
    rename_i v us hv hu
    cases hr
    obtain ⟨ws, k1, k2⟩ := res_sim hf1 hf2 h he r hu
    obtain ⟨a', v', e1, e2, e3⟩ := load_run h (he q) hv
    refine ⟨v' :: ws, ?_, VRL.cons e3 k2⟩
    have hq : (asAddr (a.tmps.getD q undef)).run P w = .ok a' w := by rw [e1]; rfl
    simp only [List.mapM_cons, Sem.run_bind, hf2, hq, Sem.run_pure, Result.andThen_ok, e2, k1]
theorem results_sim {ρ : Ren} {S : St} {w : World} {e : Env} {a : Act} {fn : Func} {vs : List Value} (h : Rel P ρ S w) (he : EnvR ρ e a) (hr : aresL P S e fn.results.toList = some vs) :
    ∃ cv, (results fn a.tmps).run P w = .ok cv w ∧ VR ρ (pack vs) cv := by
  have e0 : ∀ X : Sem (List Value), (List.toArray <$> X : Sem (Array Value)) = X >>= fun a => pure a.toArray := fun _ => rfl
  unfold results
  rw [Array.mapM_eq_mapM_toList, e0]
  generalize hfe : (fun (x : ResultVar) => (match x with | .tmp t => pure (a.tmps.getD t undef) | .cell q t => do loadVar t (← asAddr (a.tmps.getD q undef)) : Sem Value)) = f
  obtain ⟨ws, k1, k2⟩ := res_sim (f := f) (fun t => by rw [← hfe]) (fun q t => by rw [← hfe]) h he _ hr
  refine ⟨if h : ws.toArray.size = 1 then ws.toArray[0] else .tuple ws.toArray, ?_, ?_⟩
  · simp only [Sem.run_bind, k1, Result.andThen_ok, Sem.run_pure]
  · match vs, ws, k2 with
    | [], ws, k2 =>
      obtain rfl := k2.of_nil
      simp only [pack]
      exact VR.tuple' (VRL.nil ρ)
    | [v], ws, k2 =>
      obtain ⟨y, ys, rfl, h1, h2⟩ := k2.uncons
      obtain rfl := h2.of_nil
      simpa [pack] using h1
    | v :: u :: r, ws, k2 =>
      have hl := k2.1
      simp only [pack]
      rw [dif_neg (by simp; simp at hl; omega)]
      exact VR.tuple' (by simpa using k2)
theorem acall_sim (hI : PrimSim P I) (hm : P.follows .mixedOrders = true) : ∀ k, CallSim P (acall P I k)
  | 0 => ⟨fun f xs S v S' h => (by cases h), fun f xs S v S' h => (by cases h)⟩
  | k + 1 => by
    have ih := acall_sim hI hm k
    refine ⟨fun f xs S v S' h => ?_, fun f xs S v S' h ρ w ys hrel hwf hxs hf => ?_⟩
    · unfold acall at h
      split at h
      · exact hI.mono _ _ _ (by assumption) _ _ _ _ h
      · repeat' split at h
        all_goals first
          | (cases h; done)
          | (cases h; exact acode_mono ih _ (by assumption))
    · unfold acall at h
      split at h
      · exact hI.sim _ _ _ (by assumption) _ _ _ _ h ρ w ys hrel hwf hxs hf
      · split at h
        case h_1 => cases h
        rename_i fn hfn
        split at h
        case h_1 => cases h
        rename_i c hbody
        split at h
        case isFalse => cases h
        rename_i hok
        have hl : xs.size = ys.size := by simpa using hxs.1
        have hsz : (ys ++ Array.replicate (fn.ntmps - ys.size) undef).size = max xs.size fn.ntmps := by simp; omega
        have fin : ∀ {x : AExit} {e : Env} {S1 : St}, (x = .normal ∨ x = .ret) → acode P (acall P I k) k c ⟨argEnv 0 xs.toList⟩ S = some (x, e, S1) → (match aresL P S1 e fn.results.toList with | some vs => some (pack vs, S1) | none => none) = some (v, S') →
            Calls P f ys w fun e w' => ∃ ρ' cv, e = .returned cv ∧ VR ρ' v cv ∧ Step P ρ S w ρ' S' w' := by
          intro x e S1 hx hc hr
          split at hr
          case h_2 => cases hr
          rename_i vs hvs
          cases hr
          refine calls_of_wp hfn hbody (wp_mono (acode_sim ih hm c hok hrel hwf (args_env hxs _) hsz rfl hf hc) ?_)
          rintro y a' w' ⟨q1, q2, q3, ρ', q4, q5⟩
          obtain ⟨cv, r1, r2⟩ := results_sim q5.rel q4 hvs
          subst q1
          rcases hx with rfl | rfl
          · exact ⟨q2, cv, r1, ρ', cv, rfl, r2, q5⟩
          · exact ⟨q2, cv, r1, ρ', cv, rfl, r2, q5⟩
        split at h
        · rename_i e S1 hc
          exact fin (.inl rfl) hc h
        · rename_i e S1 hc
          exact fin (.inr rfl) hc h
        · cases h
/-- **What the runner answers, the program answers.** -/
theorem law_of_run (hI : PrimSim P I) (hm : P.follows .mixedOrders = true) {k f : Nat} {xs ys : Array Value} {S S' : St} {v : Value} {ρ : Ren} {w : World} (h : acall P I k f xs S = some (v, S')) (hs : scalar v = true)
    (hrel : Rel P ρ S w) (hwf : S.WF) (hxs : VRL ρ xs.toList ys.toList) (hf : ∀ b L, S.next ≤ b → ρ b L = none) (hlow : S.next ≤ S.low) (hth : ∀ b blk, S.get b = some blk → blk.own = false) :
    Calls P f ys w fun e w' => e = .returned v ∧ RowKit.Below w.heap.size w w' := by
  have hc := acall_sim hI hm k
  have hmono := hc.mono _ _ _ _ _ h
  refine (hc.sim _ _ _ _ _ h ρ w ys hrel hwf hxs (fun b L h1 _ => hf b L h1)).mono ?_
  rintro e w' ⟨ρ', cv, rfl, hv, st⟩
  refine ⟨by rw [hv.scalar_eq hs], st.env.1, st.env.2.1, st.env.2.2, st.hsz, fun B hB => ?_⟩
  exact st.keep S.next B (Nat.le_refl _) (hmono.theirs S.next (Nat.le_refl _) hlow fun b blk _ hg => hth b blk hg) hB fun b L loc _ _ h1 h2 => absurd h2 (Nat.not_lt_of_le h1)
end
end Go.Proofs.YtdfgdpjlbcnkfaaDoorAbs
namespace Go.Proofs.YtdfgdpjlbcnkfaaDoorAbs
set_option linter.unusedVariables false
set_option linter.unusedSimpArgs false

/-! ## A calculus over the runner: what a call, a row of operations, a piece of code comes to -/
section
variable (P : Program) (I : Prims)
/-- From some depth on the call answers so. -/
def C (f : FuncId) (xs : Array Value) (S : St) (Q : Value → St → Prop) : Prop := ∃ v S', (∃ k, ∀ k', k ≤ k' → acall P I k' f xs S = some (v, S')) ∧ Q v S'
def O (ops : Array Oper) : List Oper → List Bool → (Env → St → Prop) → Env → St → Prop
  | [], _, Q, e, S => Q e S
  | o :: r, fl, Q, e, S =>
    if wants ops o e = true then
      match fl.headD false with
      | false =>
        (match o.op with
        | .call ⟨.value f, args, _⟩ => ∃ g xs, acallee (e.ev f) (args.map e.ev) = some (g, xs) ∧ callable P g = true ∧ C P I g xs S fun v S' => O ops r fl.tail Q (e.putO o.dst v) S'
        | _ => ∃ v S', aop P e.ev o S = some (v, S') ∧ O ops r fl.tail Q (e.putO o.dst v) S')
      | true =>
        (match o.op with
        | .call ⟨.value f, args, _⟩ => ∃ g xs, acallee (e.ev f) (args.map e.ev) = some (g, xs) ∧ callable P g = true ∧ C P I g xs (S.withLow S.next) fun v S' => S.next ≤ S'.low ∧ O ops r fl.tail Q (e.putO o.dst v) (S'.withLow S.low)
        | _ => ∃ v S', aop P e.ev o (S.withLow S.next) = some (v, S') ∧ S.next ≤ S'.low ∧ O ops r fl.tail Q (e.putO o.dst v) (S'.withLow S.low))
    else O ops r fl.tail Q (e.putO o.dst undef) S
/-- What comes behind. -/
def then_ (n : Env → St → Prop) (Q : AExit → Env → St → Prop) : AExit → Env → St → Prop
  | .normal, e, S => n e S
  | x, e, S => Q x e S
def inBlock_ (id : Nat) (Q : AExit → Env → St → Prop) : AExit → Env → St → Prop
  | .exit id', e, S => if id' = id then Q .normal e S else Q (.exit id') e S
  | x, e, S => Q x e S
def rounds_ (W : (AExit → Env → St → Prop) → Env → St → Prop) (Q : AExit → Env → St → Prop) : Nat → Env → St → Prop
  | 0, _, _ => False
  | n + 1, e, S => W (then_ (rounds_ W Q n) Q) e S
def W : Code → (AExit → Env → St → Prop) → Env → St → Prop
  | .skip, Q, e, S => Q .normal e S
  | .region _ ops draw, Q, e, S => O P I ops ops.toList (if draw = true then flagsOf ops else []) (Q .normal) e S
  | .seq a b, Q, e, S => W a (then_ (W b Q) Q) e S
  | .cond c x y, Q, e, S => ∃ t, e.ev c = .bool t ∧ if t = true then W x Q e S else W y Q e S
  | .block id c, Q, e, S => W c (inBlock_ id Q) e S
  | .loop c, Q, e, S => ∃ n, rounds_ (W c) Q n e S
  | .scope c, Q, e, S => W c Q e S
  | .label _, Q, e, S => Q .normal e S
  | .exit id, Q, e, S => Q (.exit id) e S
  | .ret, Q, e, S => Q .ret e S
  | _, _, _, _ => False
/-- From some depth on. -/
def Ev {α : Type} (f : Nat → Option α) (a : α) : Prop := ∃ k, ∀ k', k ≤ k' → f k' = some a
variable {P I}
theorem C.mono {f : FuncId} {xs : Array Value} {S : St} {Q Q' : Value → St → Prop} (h : C P I f xs S Q) (hq : ∀ v S', Q v S' → Q' v S') : C P I f xs S Q' :=
  let ⟨v, S', h1, h2⟩ := h; ⟨v, S', h1, hq v S' h2⟩
theorem astep_run {call : CallF} {ops : Array Oper} {o : Oper} {e : Env} {S : St} (hw : wants ops o e = true) : astep P call ops o false e S = (arun P call e.ev o S).map fun r => (e.putO o.dst r.1, r.2) := by
  unfold astep
  rw [if_pos hw]
  simp only
  cases arun P call e.ev o S <;> rfl
theorem O_sound {ops : Array Oper} : ∀ (l : List Oper) (fl : List Bool) {Q : Env → St → Prop} {e : Env} {S : St}, O P I ops l fl Q e S → ∃ e' S', Ev (fun k => aops P (acall P I k) ops l fl e S) (e', S') ∧ Q e' S'
  | [], fl, Q, e, S, h => ⟨e, S, ⟨0, fun _ _ => rfl⟩, h⟩
  | o :: r, fl, Q, e, S, h => by
    have go : ∀ (fb : Bool) (e1 : Env) (S1 : St), fl.headD false = fb → Ev (fun k => astep P (acall P I k) ops o fb e S) (e1, S1) → O P I ops r fl.tail Q e1 S1 → ∃ e' S', Ev (fun k => aops P (acall P I k) ops (o :: r) fl e S) (e', S') ∧ Q e' S' := by
      intro fb e1 S1 hfb hst hr
      obtain ⟨e', S', ⟨k2, h2⟩, hq⟩ := O_sound r fl.tail hr
      obtain ⟨k1, h1⟩ := hst
      refine ⟨e', S', ⟨max k1 k2, fun k' hk => ?_⟩, hq⟩
      simp only [aops]
      have h1' := h1 k' (by omega)
      have h2' := h2 k' (by omega)
      simp only at h1' h2'
      rw [hfb, h1']
      exact h2'
    unfold O at h
    split at h
    · rename_i hw
      split at h
      · rename_i hfb
        split at h
        · rename_i f args ts hop
          obtain ⟨g, xs, hcal, hcb, v, S', ⟨k, hk⟩, hq⟩ := h
          refine go false _ _ hfb ⟨k, fun k' hk' => ?_⟩ hq
          simp only [astep, hw, if_true, arun, hop, hcal, hcb, hk k' hk']
        · rename_i hop
          obtain ⟨v, S', ha, hq⟩ := h
          refine go false _ _ hfb ⟨0, fun k' _ => ?_⟩ hq
          have : arun P (acall P I k') e.ev o S = aop P e.ev o S := by
            unfold arun
            split
            · rename_i h2; exact absurd h2 (hop _ _ _)
            · rfl
          simp only [astep, hw, if_true, this, ha]
      · rename_i hfb
        split at h
        · rename_i f args ts hop
          obtain ⟨g, xs, hcal, hcb, v, S', ⟨k, hk⟩, hl, hq⟩ := h
          refine go true _ _ hfb ⟨k, fun k' hk' => ?_⟩ hq
          simp only [astep, hw, if_true, arun, hop, hcal, hcb, hk k' hk', hl]
        · rename_i hop
          obtain ⟨v, S', ha, hl, hq⟩ := h
          refine go true _ _ hfb ⟨0, fun k' _ => ?_⟩ hq
          have : arun P (acall P I k') e.ev o (S.withLow S.next) = aop P e.ev o (S.withLow S.next) := by
            unfold arun
            split
            · rename_i h2; exact absurd h2 (hop _ _ _)
            · rfl
          simp only [astep, hw, if_true, this, ha, hl]
    · rename_i hw
      refine go (fl.headD false) _ _ rfl ⟨0, fun k' _ => ?_⟩ h
      simp only [astep, hw, if_false]
      rfl
theorem W_sound : ∀ (c : Code) {Q : AExit → Env → St → Prop} {e : Env} {S : St}, W P I c Q e S → ∃ x e' S', Ev (fun k => acode P (acall P I k) k c e S) (x, e', S') ∧ Q x e' S' := by
  intro c
  induction c with
  | skip => intro Q e S h; exact ⟨.normal, e, S, ⟨0, fun _ _ => rfl⟩, h⟩
  | region id ops draw =>
    intro Q e S h
    obtain ⟨e', S', ⟨k, hk⟩, hq⟩ := O_sound _ _ h
    exact ⟨.normal, e', S', ⟨k, fun k' hk' => by simp only [acode, hk k' hk']⟩, hq⟩
  | seq a b iha ihb =>
    intro Q e S h
    obtain ⟨x, e1, S1, ⟨k1, h1⟩, hq⟩ := iha h
    cases x with
    | normal =>
      obtain ⟨x2, e2, S2, ⟨k2, h2⟩, hq2⟩ := ihb hq
      exact ⟨x2, e2, S2, ⟨max k1 k2, fun k' hk' => by simp only [acode, h1 k' (by omega), h2 k' (by omega)]⟩, hq2⟩
    | ret => exact ⟨.ret, e1, S1, ⟨k1, fun k' hk' => by simp only [acode, h1 k' hk']⟩, hq⟩
    | exit id => exact ⟨.exit id, e1, S1, ⟨k1, fun k' hk' => by simp only [acode, h1 k' hk']⟩, hq⟩
  | cond c x y ihx ihy =>
    intro Q e S h
    obtain ⟨t, ht, h⟩ := h
    cases t with
    | true =>
      obtain ⟨x1, e1, S1, ⟨k1, h1⟩, hq⟩ := ihx (by simpa using h)
      exact ⟨x1, e1, S1, ⟨k1, fun k' hk' => by simp only [acode, ht, h1 k' hk']⟩, hq⟩
    | false =>
      obtain ⟨x1, e1, S1, ⟨k1, h1⟩, hq⟩ := ihy (by simpa using h)
      exact ⟨x1, e1, S1, ⟨k1, fun k' hk' => by simp only [acode, ht, h1 k' hk']⟩, hq⟩
  | block id c ih =>
    intro Q e S h
    obtain ⟨x, e1, S1, ⟨k1, h1⟩, hq⟩ := ih h
    cases x with
    | normal => exact ⟨.normal, e1, S1, ⟨k1, fun k' hk' => by simp only [acode, h1 k' hk']⟩, hq⟩
    | ret => exact ⟨.ret, e1, S1, ⟨k1, fun k' hk' => by simp only [acode, h1 k' hk']⟩, hq⟩
    | exit id' =>
      simp only [inBlock_] at hq
      by_cases hid : id' = id
      · rw [if_pos hid] at hq
        exact ⟨.normal, e1, S1, ⟨k1, fun k' hk' => by simp only [acode, h1 k' hk', hid, if_true]⟩, hq⟩
      · rw [if_neg hid] at hq
        exact ⟨.exit id', e1, S1, ⟨k1, fun k' hk' => by simp only [acode, h1 k' hk', hid, if_false]⟩, hq⟩
  | loop c ih =>
    intro Q e S h
    obtain ⟨n, hn⟩ := h
    have key : ∀ (n : Nat) (e : Env) (S : St), rounds_ (W P I c) Q n e S → ∃ x e' S', (∃ k, ∀ k' j, k ≤ k' → k ≤ j → aloop (acode P (acall P I k') k' c) j e S = some (x, e', S')) ∧ Q x e' S' := by
      intro n
      induction n with
      | zero => intro e S h; exact h.elim
      | succ n ihn =>
        intro e S h
        obtain ⟨x, e1, S1, ⟨k1, h1⟩, hq⟩ := ih h
        cases x with
        | normal =>
          obtain ⟨x2, e2, S2, ⟨k2, h2⟩, hq2⟩ := ihn e1 S1 hq
          refine ⟨x2, e2, S2, ⟨max k1 k2 + 1, fun k' j hk hj => ?_⟩, hq2⟩
          cases j with
          | zero => omega
          | succ j => simp only [aloop, h1 k' (by omega), h2 k' j (by omega) (by omega)]
        | ret =>
          refine ⟨.ret, e1, S1, ⟨k1 + 1, fun k' j hk hj => ?_⟩, hq⟩
          cases j with
          | zero => omega
          | succ j => simp only [aloop, h1 k' (by omega)]
        | exit id =>
          refine ⟨.exit id, e1, S1, ⟨k1 + 1, fun k' j hk hj => ?_⟩, hq⟩
          cases j with
          | zero => omega
          | succ j => simp only [aloop, h1 k' (by omega)]
    obtain ⟨x, e', S', ⟨k, hk⟩, hq⟩ := key n e S hn
    exact ⟨x, e', S', ⟨k, fun k' hk' => by simp only [acode]; exact hk k' k' hk' hk'⟩, hq⟩
  | scope c ih =>
    intro Q e S h
    obtain ⟨x, e1, S1, ⟨k1, h1⟩, hq⟩ := ih h
    exact ⟨x, e1, S1, ⟨k1, fun k' hk' => by simp only [acode, h1 k' hk']⟩, hq⟩
  | label l => intro Q e S h; exact ⟨.normal, e, S, ⟨0, fun _ _ => rfl⟩, h⟩
  | exit id => intro Q e S h; exact ⟨.exit id, e, S, ⟨0, fun _ _ => rfl⟩, h⟩
  | ret => intro Q e S h; exact ⟨.ret, e, S, ⟨0, fun _ _ => rfl⟩, h⟩
  | _ => intro Q e S h; exact h.elim
/-- What a body comes to. -/
def bodyQ (P : Program) (rs : List ResultVar) (Q : Value → St → Prop) : AExit → Env → St → Prop
  | .normal, e, S => ∃ vs, aresL P S e rs = some vs ∧ Q (pack vs) S
  | .ret, e, S => ∃ vs, aresL P S e rs = some vs ∧ Q (pack vs) S
  | _, _, _ => False
/-- A call, by its body. -/
theorem C_body {f : FuncId} {fn : Func} {c : Code} {rs : List ResultVar} {xs : Array Value} {S : St} {Q : Value → St → Prop} (hI : ∀ k, I k f = none) (hf : P.funcs[f]? = some fn) (hb : fn.body = some c) (hr : fn.results.toList = rs)
    (hok : okCode P (max xs.size fn.ntmps) c = true) (h : W P I c (bodyQ P rs Q) ⟨argEnv 0 xs.toList⟩ S) : C P I f xs S Q := by
  obtain ⟨x, e, S', ⟨k, hk⟩, hq⟩ := W_sound c h
  have key : ∀ vs, aresL P S' e rs = some vs → (x = .normal ∨ x = .ret) → ∃ k, ∀ k', k ≤ k' → acall P I k' f xs S = some (pack vs, S') := by
    intro vs hvs hx
    refine ⟨k + 1, fun k' hk' => ?_⟩
    cases k' with
    | zero => omega
    | succ k' =>
      have := hk k' (by omega)
      rcases hx with rfl | rfl <;> simp only [acall, hI, hf, hb, hok, if_true, this, hr, hvs]
  cases x with
  | normal => obtain ⟨vs, h1, h2⟩ := hq; exact ⟨pack vs, S', key vs h1 (.inl rfl), h2⟩
  | ret => obtain ⟨vs, h1, h2⟩ := hq; exact ⟨pack vs, S', key vs h1 (.inr rfl), h2⟩
  | exit id => exact hq.elim
/-- A call, by its contract. -/
theorem C_prim {f : FuncId} {xs : Array Value} {S S' : St} {v : Value} {Q : Value → St → Prop} (hI : ∃ k, ∀ k', k ≤ k' → ∃ p, I k' f = some p ∧ p xs S = some (v, S')) (hq : Q v S') : C P I f xs S Q := by
  obtain ⟨k, hk⟩ := hI
  refine ⟨v, S', ⟨k + 1, fun k' hk' => ?_⟩, hq⟩
  cases k' with
  | zero => omega
  | succ k' =>
    obtain ⟨p, h1, h2⟩ := hk k' (by omega)
    simp only [acall, h1, h2]
theorem O_mono {ops : Array Oper} {Q Q' : Env → St → Prop} (hq : ∀ e S, Q e S → Q' e S) : ∀ (l : List Oper) (fl : List Bool) {e : Env} {S : St}, O P I ops l fl Q e S → O P I ops l fl Q' e S
  | [], _, _, _, h => hq _ _ h
  | o :: r, fl, e, S, h => by
    unfold O at h ⊢
    split
    · rename_i hw
      rw [if_pos hw] at h
      split
      · rename_i hfb
        simp only [hfb] at h
        split
        · rename_i hop
          simp only [hop] at h
          obtain ⟨g, xs, h1, h2, h3⟩ := h
          exact ⟨g, xs, h1, h2, h3.mono fun v S' k => O_mono hq r fl.tail k⟩
        · rename_i hop
          split at h
          · rename_i hop2
            exact absurd hop2 (hop _ _ _)
          · obtain ⟨v, S', h1, h2⟩ := h
            exact ⟨v, S', h1, O_mono hq r fl.tail h2⟩
      · rename_i hfb
        simp only [hfb] at h
        split
        · rename_i hop
          simp only [hop] at h
          obtain ⟨g, xs, h1, h2, h3⟩ := h
          exact ⟨g, xs, h1, h2, h3.mono fun v S' k => ⟨k.1, O_mono hq r fl.tail k.2⟩⟩
        · rename_i hop
          split at h
          · rename_i hop2
            exact absurd hop2 (hop _ _ _)
          · obtain ⟨v, S', h1, h2, h3⟩ := h
            exact ⟨v, S', h1, h2, O_mono hq r fl.tail h3⟩
    · rename_i hw
      rw [if_neg hw] at h
      exact O_mono hq r fl.tail h
theorem then_mono {n n' : Env → St → Prop} {Q Q' : AExit → Env → St → Prop} (hn : ∀ e S, n e S → n' e S) (hq : ∀ x e S, Q x e S → Q' x e S) : ∀ x e S, then_ n Q x e S → then_ n' Q' x e S := by
  intro x e S h
  cases x with
  | normal => exact hn _ _ h
  | ret => exact hq _ _ _ h
  | exit id => exact hq _ _ _ h
theorem W_mono : ∀ (c : Code) {Q Q' : AExit → Env → St → Prop} {e : Env} {S : St}, (∀ x e S, Q x e S → Q' x e S) → W P I c Q e S → W P I c Q' e S := by
  intro c
  induction c with
  | skip => intro Q Q' e S hq h; exact hq _ _ _ h
  | region id ops draw => intro Q Q' e S hq h; exact O_mono (fun e S k => hq _ _ _ k) _ _ h
  | seq a b iha ihb => intro Q Q' e S hq h; exact iha (then_mono (fun e S k => ihb hq k) hq) h
  | cond c x y ihx ihy =>
    intro Q Q' e S hq h
    obtain ⟨t, h1, h2⟩ := h
    refine ⟨t, h1, ?_⟩
    cases t with
    | true => simpa using ihx hq (by simpa using h2)
    | false => simpa using ihy hq (by simpa using h2)
  | block id c ih =>
    intro Q Q' e S hq h
    refine ih (fun x e S k => ?_) h
    cases x with
    | normal => exact hq _ _ _ k
    | ret => exact hq _ _ _ k
    | exit id' =>
      simp only [inBlock_] at k ⊢
      split
      · rename_i hid; rw [if_pos hid] at k; exact hq _ _ _ k
      · rename_i hid; rw [if_neg hid] at k; exact hq _ _ _ k
  | loop c ih =>
    intro Q Q' e S hq h
    obtain ⟨n, hn⟩ := h
    refine ⟨n, ?_⟩
    have key : ∀ (n : Nat) (e : Env) (S : St), rounds_ (W P I c) Q n e S → rounds_ (W P I c) Q' n e S := by
      intro n
      induction n with
      | zero => intro e S h; exact h
      | succ n ihn => intro e S h; exact ih (then_mono (fun e S k => ihn e S k) hq) h
    exact key n e S hn
  | scope c ih => intro Q Q' e S hq h; exact ih hq h
  | label l => intro Q Q' e S hq h; exact hq _ _ _ h
  | exit id => intro Q Q' e S hq h; exact hq _ _ _ h
  | ret => intro Q Q' e S hq h; exact hq _ _ _ h
  | _ => intro Q Q' e S hq h; exact h.elim
theorem O_pin {ops : Array Oper} : ∀ (l : List Oper) (fl : List Bool) {Q : Env → St → Prop} {e : Env} {S : St}, O P I ops l fl Q e S → ∃ e1 S1, Q e1 S1 ∧ O P I ops l fl (fun e S => e = e1 ∧ S = S1) e S
  | [], _, _, e, S, h => ⟨e, S, h, rfl, rfl⟩
  | o :: r, fl, Q, e, S, h => by
    unfold O at h
    split at h
    · rename_i hw
      split at h
      · rename_i hfb
        split at h
        · rename_i hop
          obtain ⟨g, xs, h1, h2, v, S', h3, h4⟩ := h
          obtain ⟨e1, S1, k1, k2⟩ := O_pin r fl.tail h4
          refine ⟨e1, S1, k1, ?_⟩
          unfold O
          rw [if_pos hw]
          simp only [hfb, hop]
          exact ⟨g, xs, h1, h2, v, S', h3, k2⟩
        · rename_i hop
          obtain ⟨v, S', h1, h2⟩ := h
          obtain ⟨e1, S1, k1, k2⟩ := O_pin r fl.tail h2
          refine ⟨e1, S1, k1, ?_⟩
          unfold O
          rw [if_pos hw]
          simp only [hfb]
          exact ⟨v, S', h1, k2⟩
      · rename_i hfb
        split at h
        · rename_i hop
          obtain ⟨g, xs, h1, h2, v, S', h3, h4, h5⟩ := h
          obtain ⟨e1, S1, k1, k2⟩ := O_pin r fl.tail h5
          refine ⟨e1, S1, k1, ?_⟩
          unfold O
          rw [if_pos hw]
          simp only [hfb, hop]
          exact ⟨g, xs, h1, h2, v, S', h3, h4, k2⟩
        · rename_i hop
          obtain ⟨v, S', h1, h2, h3⟩ := h
          obtain ⟨e1, S1, k1, k2⟩ := O_pin r fl.tail h3
          refine ⟨e1, S1, k1, ?_⟩
          unfold O
          rw [if_pos hw]
          simp only [hfb]
          exact ⟨v, S', h1, h2, k2⟩
    · rename_i hw
      obtain ⟨e1, S1, k1, k2⟩ := O_pin r fl.tail h
      refine ⟨e1, S1, k1, ?_⟩
      unfold O
      rw [if_neg hw]
      exact k2
theorem W_pin : ∀ (c : Code) {Q : AExit → Env → St → Prop} {e : Env} {S : St}, W P I c Q e S → ∃ x1 e1 S1, Q x1 e1 S1 ∧ W P I c (fun x e S => x = x1 ∧ e = e1 ∧ S = S1) e S := by
  intro c
  induction c with
  | skip => intro Q e S h; exact ⟨.normal, e, S, h, rfl, rfl, rfl⟩
  | region id ops draw =>
    intro Q e S h
    obtain ⟨e1, S1, k1, k2⟩ := O_pin _ _ h
    exact ⟨.normal, e1, S1, k1, O_mono (fun e S k => ⟨rfl, k⟩) _ _ k2⟩
  | seq a b iha ihb =>
    intro Q e S h
    obtain ⟨x1, e1, S1, k1, k2⟩ := iha h
    cases x1 with
    | normal =>
      obtain ⟨x2, e2, S2, k3, k4⟩ := ihb k1
      refine ⟨x2, e2, S2, k3, W_mono a (fun x e S k => ?_) k2⟩
      obtain ⟨rfl, rfl, rfl⟩ := k
      exact k4
    | ret =>
      refine ⟨.ret, e1, S1, k1, W_mono a (fun x e S k => ?_) k2⟩
      obtain ⟨rfl, rfl, rfl⟩ := k
      exact ⟨rfl, rfl, rfl⟩
    | exit id =>
      refine ⟨.exit id, e1, S1, k1, W_mono a (fun x e S k => ?_) k2⟩
      obtain ⟨rfl, rfl, rfl⟩ := k
      exact ⟨rfl, rfl, rfl⟩
  | cond c x y ihx ihy =>
    intro Q e S h
    obtain ⟨t, h1, h2⟩ := h
    cases t with
    | true =>
      obtain ⟨x1, e1, S1, k1, k2⟩ := ihx (by simpa using h2)
      exact ⟨x1, e1, S1, k1, true, h1, by simpa using k2⟩
    | false =>
      obtain ⟨x1, e1, S1, k1, k2⟩ := ihy (by simpa using h2)
      exact ⟨x1, e1, S1, k1, false, h1, by simpa using k2⟩
  | block id c ih =>
    intro Q e S h
    obtain ⟨x1, e1, S1, k1, k2⟩ := ih h
    cases x1 with
    | normal =>
      refine ⟨.normal, e1, S1, k1, W_mono c (fun x e S k => ?_) k2⟩
      obtain ⟨rfl, rfl, rfl⟩ := k
      exact ⟨rfl, rfl, rfl⟩
    | ret =>
      refine ⟨.ret, e1, S1, k1, W_mono c (fun x e S k => ?_) k2⟩
      obtain ⟨rfl, rfl, rfl⟩ := k
      exact ⟨rfl, rfl, rfl⟩
    | exit id' =>
      simp only [inBlock_] at k1
      by_cases hid : id' = id
      · rw [if_pos hid] at k1
        refine ⟨.normal, e1, S1, k1, W_mono c (fun x e S k => ?_) k2⟩
        obtain ⟨rfl, rfl, rfl⟩ := k
        simp only [inBlock_, if_pos hid]
        exact ⟨trivial, trivial, trivial⟩
      · rw [if_neg hid] at k1
        refine ⟨.exit id', e1, S1, k1, W_mono c (fun x e S k => ?_) k2⟩
        obtain ⟨rfl, rfl, rfl⟩ := k
        simp only [inBlock_, if_neg hid]
        exact ⟨trivial, trivial, trivial⟩
  | loop c ih =>
    intro Q e S h
    obtain ⟨n, hn⟩ := h
    have key : ∀ (n : Nat) (e : Env) (S : St), rounds_ (W P I c) Q n e S → ∃ x1 e1 S1, Q x1 e1 S1 ∧ rounds_ (W P I c) (fun x e S => x = x1 ∧ e = e1 ∧ S = S1) n e S := by
      intro n
      induction n with
      | zero => intro e S h; exact h.elim
      | succ n ihn =>
        intro e S h
        obtain ⟨x1, e1, S1, k1, k2⟩ := ih h
        cases x1 with
        | normal =>
          obtain ⟨x2, e2, S2, k3, k4⟩ := ihn e1 S1 k1
          refine ⟨x2, e2, S2, k3, W_mono c (fun x e S k => ?_) k2⟩
          obtain ⟨rfl, rfl, rfl⟩ := k
          exact k4
        | ret =>
          refine ⟨.ret, e1, S1, k1, W_mono c (fun x e S k => ?_) k2⟩
          obtain ⟨rfl, rfl, rfl⟩ := k
          exact ⟨rfl, rfl, rfl⟩
        | exit id =>
          refine ⟨.exit id, e1, S1, k1, W_mono c (fun x e S k => ?_) k2⟩
          obtain ⟨rfl, rfl, rfl⟩ := k
          exact ⟨rfl, rfl, rfl⟩
    obtain ⟨x1, e1, S1, k1, k2⟩ := key n e S hn
    exact ⟨x1, e1, S1, k1, n, k2⟩
  | scope c ih => intro Q e S h; exact ih h
  | label l => intro Q e S h; exact ⟨.normal, e, S, h, rfl, rfl, rfl⟩
  | exit id => intro Q e S h; exact ⟨.exit id, e, S, h, rfl, rfl, rfl⟩
  | ret => intro Q e S h; exact ⟨.ret, e, S, h, rfl, rfl, rfl⟩
  | _ => intro Q e S h; exact h.elim
/-- A loop: what holds at each round's head, and a number that goes down. -/
theorem W_loop {c : Code} {Q : AExit → Env → St → Prop} {e : Env} {S : St} (J : Nat → Env → St → Prop) (n : Nat) (h0 : J n e S) (hr : ∀ n e S, J n e S → W P I c (then_ (fun e' S' => ∃ m, m < n ∧ J m e' S') Q) e S) : W P I (.loop c) Q e S := by
  have key : ∀ n (e : Env) (S : St), J n e S → ∃ k, rounds_ (W P I c) Q k e S := by
    intro n
    induction n using Nat.strongRecOn with
    | _ n ih =>
      intro e S hJ
      obtain ⟨x1, e1, S1, k1, k2⟩ := W_pin c (hr n e S hJ)
      cases x1 with
      | normal =>
        obtain ⟨m, hm, hJm⟩ := k1
        obtain ⟨k, hk⟩ := ih m hm e1 S1 hJm
        refine ⟨k + 1, W_mono c (fun x e S q => ?_) k2⟩
        obtain ⟨rfl, rfl, rfl⟩ := q
        exact hk
      | ret =>
        refine ⟨1, W_mono c (fun x e S q => ?_) k2⟩
        obtain ⟨rfl, rfl, rfl⟩ := q
        exact k1
      | exit id =>
        refine ⟨1, W_mono c (fun x e S q => ?_) k2⟩
        obtain ⟨rfl, rfl, rfl⟩ := q
        exact k1
  exact key n e S h0
end
end Go.Proofs.YtdfgdpjlbcnkfaaDoorAbs
namespace Go.Proofs.YtdfgdpjlbcnkfaaDoorAbs
set_option linter.unusedVariables false
set_option linter.unusedSimpArgs false

/-! ## Rules for reckoning -/
section
variable {P : Program} {I : Prims} {ops : Array Oper} {r : List Oper} {Q : Env → St → Prop} {e : Env} {S : St} {dst : Option Tmp} {ty : TypeId} {pos : String} {after : Array Edge} {fl : List Bool} {ev : Operand → Value}
def okO (o : Option (Value × St)) : Prop := o.isSome = true
def vO (o : Option (Value × St)) : Value := (o.getD (undef, { get := fun _ => none, next := 0, low := 0 })).1
def sO (o : Option (Value × St)) : St := (o.getD (undef, { get := fun _ => none, next := 0, low := 0 })).2
theorem okO_some (v : Value) (S : St) : okO (some (v, S)) = True := by simp [okO]
theorem vO_some (v : Value) (S : St) : vO (some (v, S)) = v := rfl
theorem sO_some (v : Value) (S : St) : sO (some (v, S)) = S := rfl
def isCallV : Op → Bool
  | .call ⟨.value _, _, _⟩ => true
  | _ => false
/-- What comes behind a call. -/
def OK (P : Program) (I : Prims) (ops : Array Oper) (r : List Oper) (Q : Env → St → Prop) (dst : Option Tmp) (e : Env) : Value → St → Prop := fun v S' => O P I ops r [] Q (e.putO dst v) S'
def callF (v : Value) (args : Array Value) : FuncId := ((acallee v args).getD (0, #[])).1
def callX (v : Value) (args : Array Value) : Array Value := ((acallee v args).getD (0, #[])).2
theorem O_nil : O P I ops [] fl Q e S = Q e S := rfl
theorem O_step {op : Op} (h : isCallV op = false) : O P I ops (⟨dst, op, ty, pos, after, none⟩ :: r) [] Q e S = (okO (aop P e.ev ⟨dst, op, ty, pos, after, none⟩ S) ∧ O P I ops r [] Q (e.putO dst (vO (aop P e.ev ⟨dst, op, ty, pos, after, none⟩ S))) (sO (aop P e.ev ⟨dst, op, ty, pos, after, none⟩ S))) := by
  rw [O]
  simp only [wants, if_true, List.headD_nil]
  have hop : ∀ f args ts, op ≠ .call ⟨.value f, args, ts⟩ := fun f args ts q => by rw [q] at h; cases h
  have e1 : ∀ o : Option (Value × St), (∃ v S', o = some (v, S') ∧ O P I ops r [].tail Q (e.putO dst v) S') ↔ (okO o ∧ O P I ops r [] Q (e.putO dst (vO o)) (sO o)) := by
    intro o
    cases o with
    | none => exact ⟨fun ⟨_, _, h, _⟩ => (by cases h), fun h => (by cases h.1)⟩
    | some q => exact ⟨fun ⟨v, S', h, k⟩ => (by cases h; exact ⟨rfl, k⟩), fun h => ⟨q.1, q.2, rfl, h.2⟩⟩
  cases op
  case call c =>
    obtain ⟨callee, args, ts⟩ := c
    cases callee
    case value f => cases h
    all_goals exact propext (e1 _)
  all_goals exact propext (e1 _)
theorem O_call {f : Operand} {args : Array Operand} {ts : Array TypeId} : O P I ops (⟨dst, .call ⟨.value f, args, ts⟩, ty, pos, after, none⟩ :: r) [] Q e S =
    ((acallee (e.ev f) (args.map e.ev)).isSome = true ∧ callable P (callF (e.ev f) (args.map e.ev)) = true ∧ C P I (callF (e.ev f) (args.map e.ev)) (callX (e.ev f) (args.map e.ev)) S (OK P I ops r Q dst e)) := by
  rw [O]
  simp only [wants, if_true, List.headD_nil, callF, callX]
  refine propext ⟨?_, ?_⟩
  · rintro ⟨g, xs, h1, h2, h3⟩
    rw [h1]
    exact ⟨rfl, h2, h3⟩
  · rintro ⟨h1, h2, h3⟩
    obtain ⟨q, hq⟩ := Option.isSome_iff_exists.1 h1
    rw [hq] at h2 h3
    exact ⟨q.1, q.2, hq, h2, h3⟩
theorem O_guard {o : Oper} {g : Nat × Bool} (h : wants ops ⟨dst, o.op, ty, pos, after, some g⟩ e = true) : O P I ops (⟨dst, o.op, ty, pos, after, some g⟩ :: r) fl Q e S = O P I ops (⟨dst, o.op, ty, pos, after, none⟩ :: r) fl Q e S := by
  unfold O
  rw [if_pos h, if_pos (show wants ops ⟨dst, o.op, ty, pos, after, none⟩ e = true from rfl)]
  rfl
theorem W_seq {a b : Code} {Q : AExit → Env → St → Prop} : W P I (.seq a b) Q e S = W P I a (then_ (W P I b Q) Q) e S := rfl
theorem W_seq_k {a b : Code} {Q : AExit → Env → St → Prop} (h : ∀ K : AExit → Env → St → Prop, (∀ e S, W P I b Q e S → K .normal e S) → (∀ id e S, Q (.exit id) e S → K (.exit id) e S) → (∀ e S, Q .ret e S → K .ret e S) → W P I a K e S) : W P I (.seq a b) Q e S :=
  h (then_ (W P I b Q) Q) (fun _ _ h => h) (fun _ _ _ h => h) (fun _ _ h => h)
theorem W_push {a b : Code} {Q : AExit → Env → St → Prop} (h : ∀ K : AExit → Env → St → Prop, (∀ x e S, then_ (W P I b Q) Q x e S → K x e S) → W P I a K e S) : W P I (.seq a b) Q e S := h _ fun _ _ _ h => h
theorem then_normal {n : Env → St → Prop} {Q : AExit → Env → St → Prop} : then_ n Q .normal e S = n e S := rfl
theorem then_ret {n : Env → St → Prop} {Q : AExit → Env → St → Prop} : then_ n Q .ret e S = Q .ret e S := rfl
theorem then_exit {n : Env → St → Prop} {Q : AExit → Env → St → Prop} {id : Nat} : then_ n Q (.exit id) e S = Q (.exit id) e S := rfl
theorem W_region {id : Nat} {Q : AExit → Env → St → Prop} {l : List Oper} : W P I (.region id l.toArray false) Q e S = O P I l.toArray l [] (Q .normal) e S := rfl
theorem W_ret {Q : AExit → Env → St → Prop} : W P I .ret Q e S = Q .ret e S := rfl
theorem W_skip {Q : AExit → Env → St → Prop} : W P I .skip Q e S = Q .normal e S := rfl
theorem W_exit {id : Nat} {Q : AExit → Env → St → Prop} : W P I (.exit id) Q e S = Q (.exit id) e S := rfl
theorem W_scope {c : Code} {Q : AExit → Env → St → Prop} : W P I (.scope c) Q e S = W P I c Q e S := rfl
theorem W_label {l : Nat} {Q : AExit → Env → St → Prop} : W P I (.label l) Q e S = Q .normal e S := rfl
theorem W_block {id : Nat} {c : Code} {Q : AExit → Env → St → Prop} : W P I (.block id c) Q e S = W P I c (inBlock_ id Q) e S := rfl
theorem W_cond {c : Operand} {x y : Code} {Q : AExit → Env → St → Prop} {t : Bool} (h : e.ev c = .bool t) (h1 : t = true → W P I x Q e S) (h2 : t = false → W P I y Q e S) : W P I (.cond c x y) Q e S :=
  ⟨t, h, by cases t <;> simp_all⟩
theorem inBlock_normal {id : Nat} {Q : AExit → Env → St → Prop} : inBlock_ id Q .normal e S = Q .normal e S := rfl
theorem inBlock_ret {id : Nat} {Q : AExit → Env → St → Prop} : inBlock_ id Q .ret e S = Q .ret e S := rfl
theorem inBlock_exit {id id' : Nat} {Q : AExit → Env → St → Prop} : inBlock_ id Q (.exit id') e S = if id' = id then Q .normal e S else Q (.exit id') e S := rfl
theorem bodyQ_normal {rs : List ResultVar} {Q : Value → St → Prop} : bodyQ P rs Q .normal e S = ∃ vs, aresL P S e rs = some vs ∧ Q (pack vs) S := rfl
theorem bodyQ_ret {rs : List ResultVar} {Q : Value → St → Prop} : bodyQ P rs Q .ret e S = ∃ vs, aresL P S e rs = some vs ∧ Q (pack vs) S := rfl

/-! ### Temporaries -/
theorem ev_tmp (t : Nat) : e.ev (.tmp t) = e.get t := rfl
theorem ev_const (v : Value) : e.ev (.const v) = v := rfl
theorem ev_global (g : Nat) : e.ev (.global g) = .pointer (some ⟨g, 0, some 0⟩) := rfl
theorem ev_func (f : FuncId) : e.ev (.func f) = .func (.func f) #[] #[] := rfl
theorem putO_some (t : Nat) (v : Value) : e.putO (some t) v = e.put t v := rfl
theorem putO_none (v : Value) : e.putO none v = e := rfl
theorem get_put (t s : Nat) (v : Value) : (e.put t v).get s = if s = t then v else e.get s := putO_get e t v s
theorem get_args (l : List Value) (t : Nat) : (⟨argEnv 0 l⟩ : Env).get t = (l[t]?).getD undef := by
  simp only [Env.get, lk_args, Nat.zero_le, if_true, Nat.sub_zero]
theorem callF_func (f : FuncId) (first captured args : Array Value) : callF (.func (.func f) first captured) args = f := rfl
theorem callX_func (f : FuncId) (first captured args : Array Value) : callX (.func (.func f) first captured) args = (first ++ args) ++ captured := rfl
theorem acallee_func (f : FuncId) (first captured args : Array Value) : acallee (.func (.func f) first captured) args = some (f, (first ++ args) ++ captured) := rfl

/-! ### Operations -/
def lift (S : St) : Option Value → Option (Value × St)
  | some v => some (v, S)
  | none => none
theorem lift_none (S : St) : lift S none = none := rfl
theorem lift_some (S : St) (v : Value) : lift S (some v) = some (v, S) := rfl
theorem aop_move (x : Operand) : aop P ev ⟨dst, .move x, ty, pos, after, none⟩ S = some (ev x, S) := rfl
theorem aop_assign (x : Operand) : aop P ev ⟨dst, .assign x, ty, pos, after, none⟩ S = some (ev x, S) := rfl
def pickX : Value → Value → Value → Value
  | .bool t, a, b => if t then a else b
  | _, _, _ => undef
def isB : Value → Bool
  | .bool _ => true
  | _ => false
/-- The value of a test that is taken from two. -/
theorem pickX_and (t x : Bool) : pickX (.bool t) (.bool x) (.bool false) = .bool (t && x) := by cases t <;> rfl
theorem pickX_or (t x : Bool) : pickX (.bool t) (.bool true) (.bool x) = .bool (t || x) := by cases t <;> rfl

def binX (P : Program) (op : BinOp) (t : TypeId) (x y : Operand) (a b : Value) : Option Value :=
  match abinOp P op t a b with
  | some v => some v
  | none =>
    if scalar a = true ∧ scalar b = true then
      match pureRun P (do eqGuard op t x y a b; binOp op t a b) with
      | some v => if scalar v = true then some v else none
      | none => none
    else none
theorem pureRun_bind {α β : Type} (e : Sem α) (f : α → Sem β) : pureRun P (e >>= f) = (pureRun P e).bind fun a => pureRun P (f a) := by
  show pureRun P (e.bind f) = _
  induction e with
  | pure a => rfl
  | program k ih => simp only [Sem.bind, pureRun]; exact ih P
  | _ => rfl
theorem pureRun_pure {α : Type} (a : α) : pureRun P (pure a : Sem α) = some a := rfl
theorem aop_scalar {op : Op} (hH : aopH P ev op S = none) (hs : isSelect op = false) {xs : List Operand} (hx : op.operands.toList = xs) {X : Sem Value} (he : ∀ dst ty pos after guard, execOp ev ⟨dst, op, ty, pos, after, guard⟩ = do pure (.value (← X))) :
    aop P ev ⟨dst, op, ty, pos, after, none⟩ S = lift S (if xs.all (fun x => scalar (ev x)) = true then (match pureRun P X with | some v => if scalar v = true then some v else none | none => none) else none) := by
  unfold aop
  rw [hH]
  simp only
  unfold ascalar
  have e0 : op.operands.all (fun x => scalar (ev x)) = xs.all fun x => scalar (ev x) := by rw [← hx, Array.all_toList]
  simp only [e0, hs, and_true, he, pureRun_bind]
  split
  · cases hp : pureRun P X with
    | none => rfl
    | some v =>
      simp only [Option.bind_some, pureRun_pure]
      split <;> rfl
  · rfl
theorem aop_binOp (op : BinOp) (t : TypeId) (x y : Operand) (yt : TypeId) : aop P ev ⟨dst, .binOp op t x y yt, ty, pos, after, none⟩ S = lift S (binX P op t x y (ev x) (ev y)) := by
  unfold binX
  cases ha : abinOp P op t (ev x) (ev y) with
  | some v => simp only [aop, aopH, ha, lift]
  | none =>
    rw [aop_scalar (xs := [x, y]) (X := do eqGuard op t x y (ev x) (ev y); binOp op t (ev x) (ev y)) (by simp only [aopH, ha]) rfl (by simp [Op.operands]) (fun _ _ _ _ _ => rfl)]
    simp only [List.all_cons, List.all_nil, Bool.and_true, Bool.and_eq_true]
theorem binX_add (t : TypeId) (x y : Operand) (k : IntKind) (a b : Int) : binX P .add t x y (.int k a) (.int k b) = some (.int k (k.wrap (a + b))) := by
  simp [binX, abinOp, scalar, leaf, eqGuard, binOp, Op.intArith, pureRun, pureRun_bind, Bind.bind, Sem.bind, pure]
theorem binX_sub (t : TypeId) (x y : Operand) (k : IntKind) (a b : Int) : binX P .sub t x y (.int k a) (.int k b) = some (.int k (k.wrap (a - b))) := by
  simp [binX, abinOp, scalar, leaf, eqGuard, binOp, Op.intArith, pureRun, Bind.bind, Sem.bind, pure]
theorem binX_mul (t : TypeId) (x y : Operand) (k : IntKind) (a b : Int) : binX P .mul t x y (.int k a) (.int k b) = some (.int k (k.wrap (a * b))) := by
  simp [binX, abinOp, scalar, leaf, eqGuard, binOp, Op.intArith, pureRun, Bind.bind, Sem.bind, pure]
theorem binX_lss (t : TypeId) (x y : Operand) (k : IntKind) (a b : Int) : binX P .lss t x y (.int k a) (.int k b) = some (.bool (decide (a < b))) := by
  simp [binX, abinOp, scalar, leaf, eqGuard, binOp, Op.intCmp, pureRun, Bind.bind, Sem.bind, pure]
theorem binX_leq (t : TypeId) (x y : Operand) (k : IntKind) (a b : Int) : binX P .leq t x y (.int k a) (.int k b) = some (.bool (decide (a ≤ b))) := by
  simp [binX, abinOp, scalar, leaf, eqGuard, binOp, Op.intCmp, pureRun, Bind.bind, Sem.bind, pure]
theorem binX_gtr (t : TypeId) (x y : Operand) (k : IntKind) (a b : Int) : binX P .gtr t x y (.int k a) (.int k b) = some (.bool (decide (b < a))) := by
  simp [binX, abinOp, scalar, leaf, eqGuard, binOp, Op.intCmp, pureRun, Bind.bind, Sem.bind, pure]
theorem binX_geq (t : TypeId) (x y : Operand) (k : IntKind) (a b : Int) : binX P .geq t x y (.int k a) (.int k b) = some (.bool (decide (b ≤ a))) := by
  simp [binX, abinOp, scalar, leaf, eqGuard, binOp, Op.intCmp, pureRun, Bind.bind, Sem.bind, pure]
theorem binX_eql (t : TypeId) (x y : Operand) (k : IntKind) (a b : Int) : binX P .eql t x y (.int k a) (.int k b) = some (.bool (decide (a = b))) := by
  simp [binX, abinOp, anil, scalar, leaf, eqGuard, binOp, Op.intCmp, pureRun, Bind.bind, Sem.bind, pure]
  rfl
theorem binX_neq (t : TypeId) (x y : Operand) (k : IntKind) (a b : Int) : binX P .neq t x y (.int k a) (.int k b) = some (.bool (!decide (a = b))) := by
  simp [binX, abinOp, anil, scalar, leaf, eqGuard, binOp, Op.intCmp, pureRun, Bind.bind, Sem.bind, pure, bne]
  rfl
theorem binX_quo (t : TypeId) (x y : Operand) (k : IntKind) (a b : Int) (h : b ≠ 0) : binX P .quo t x y (.int k a) (.int k b) = some (.int k (k.wrap (a.tdiv b))) := by
  simp [binX, abinOp, scalar, leaf, eqGuard, binOp, Op.intDiv, h, pureRun, Bind.bind, Sem.bind, pure]
theorem binX_rem (t : TypeId) (x y : Operand) (k : IntKind) (a b : Int) (h : b ≠ 0) : binX P .rem t x y (.int k a) (.int k b) = some (.int k (a.tmod b)) := by
  simp [binX, abinOp, scalar, leaf, eqGuard, binOp, Op.intDiv, h, pureRun, Bind.bind, Sem.bind, pure]
theorem binX_sadd (t : TypeId) (x y : Operand) (a b : ByteArray) (h : a.size + b.size ≤ 9223372036854775807) : binX P .add t x y (.string a) (.string b) = some (.string (a ++ b)) := by
  have h' : ¬ (9223372036854775807 < (a.size : Int) + (b.size : Int)) := by omega
  simp [binX, abinOp, scalar, leaf, eqGuard, binOp, Op.stringOp, IntKind.max, IntKind.signed, IntKind.bits, h', pureRun, Bind.bind, Sem.bind, pure]
theorem binX_seql (t : TypeId) (x y : Operand) (a b : ByteArray) : binX P .eql t x y (.string a) (.string b) = some (.bool (a.toList == b.toList)) := by
  simp [binX, abinOp, anil, scalar, leaf, eqGuard, binOp, Op.stringOp, pureRun, Bind.bind, Sem.bind, pure]
theorem binX_sneq (t : TypeId) (x y : Operand) (a b : ByteArray) : binX P .neq t x y (.string a) (.string b) = some (.bool (!(a.toList == b.toList))) := by
  simp [binX, abinOp, anil, scalar, leaf, eqGuard, binOp, Op.stringOp, pureRun, Bind.bind, Sem.bind, pure]

def unX (P : Program) (op : UnOp) (a : Value) : Option Value :=
  if scalar a = true then match pureRun P (Op.unary op a) with
    | some v => if scalar v = true then some v else none
    | none => none
  else none
theorem aop_unOp (op : UnOp) (t : TypeId) (x : Operand) : aop P ev ⟨dst, .unOp op t x, ty, pos, after, none⟩ S = lift S (unX P op (ev x)) := by
  rw [aop_scalar (xs := [x]) (X := Op.unary op (ev x)) rfl rfl (by simp [Op.operands]) (fun _ _ _ _ _ => rfl)]
  simp only [List.all_cons, List.all_nil, Bool.and_true, unX]
theorem unX_not (b : Bool) : unX P .not (.bool b) = some (.bool !b) := by simp [unX, Op.unary, scalar, leaf, pureRun, pure]
theorem unX_neg (k : IntKind) (n : Int) : unX P .neg (.int k n) = some (.int k (k.wrap (0 - n))) := by simp [unX, Op.unary, Op.intArith, scalar, leaf, pureRun, pure]
def pkX : Value → Value → Value → Option Value
  | .bool t, a, b => some (if t then a else b)
  | _, _, _ => none
theorem aop_pick (c a b : Operand) : aop P ev ⟨dst, .pick c a b, ty, pos, after, none⟩ S = lift S (pkX (ev c) (ev a) (ev b)) := by
  have h : ∀ v, (∀ t, v ≠ .bool t) → pkX v (ev a) (ev b) = none := fun v hv => by
    unfold pkX
    split
    · exact absurd rfl (hv _)
    · rfl
  cases hc : ev c with
  | bool t => simp only [aop, aopH, hc, pkX, lift]
  | _ =>
    rw [h _ (fun t q => by cases q)]
    simp only [lift, aop, aopH, hc, ascalar]
    split
    · simp [execOp, hc, asBool, pureRun, pureRun_bind, Bind.bind, Sem.bind, stuck, unsupported]
    · rfl
theorem pkX_and (t x : Bool) : pkX (.bool t) (.bool x) (.bool false) = some (.bool (t && x)) := by cases t <;> rfl
theorem pkX_or (t x : Bool) : pkX (.bool t) (.bool true) (.bool x) = some (.bool (t || x)) := by cases t <;> rfl
/-- The one, or else the other. -/
def alt (a b : Option (Value × St)) : Option (Value × St) :=
  match a with
  | some r => some r
  | none => b
theorem alt_some (r : Value × St) (b : Option (Value × St)) : alt (some r) b = some r := rfl
theorem alt_none (b : Option (Value × St)) : alt none b = b := rfl
theorem aop_alt (o : Oper) : aop P ev o S = alt (aopH P ev o.op S) (ascalar P ev o S) := by
  unfold aop alt
  cases aopH P ev o.op S <;> rfl
/-- What is left when it is none of the operations on memory. -/
def rest (P : Program) (ev : Operand → Value) (o : Oper) (S : St) : Option (Value × St) := ascalar P ev o S
theorem aop_alloc (t : TypeId) : aop P ev ⟨dst, .alloc t, ty, pos, after, none⟩ S = alt (match azero P t with
    | some z => if scalar z = true ∧ (asize P t).isSome = true then some (ptrAt S.next z.cells.size, S.push ⟨z.cells.toList, t, true, 0⟩) else none
    | none => none) (rest P ev ⟨dst, .alloc t, ty, pos, after, none⟩ S) := aop_alt _
theorem aop_box (t : TypeId) (x : Operand) : aop P ev ⟨dst, .box t x, ty, pos, after, none⟩ S = alt (if (asize P t).isSome = true then some (ptrAt S.next (ev x).cells.size, S.push ⟨(ev x).cells.toList, t, true, 0⟩) else none) (rest P ev ⟨dst, .box t x, ty, pos, after, none⟩ S) := aop_alt _
theorem aop_build (t : TypeId) (ps : Array (Nat × Operand)) : aop P ev ⟨dst, .build t ps, ty, pos, after, none⟩ S = alt (lift S (abuild P t (ps.map fun (i, x) => (i, ev x)))) (rest P ev ⟨dst, .build t ps, ty, pos, after, none⟩ S) := by
  rw [aop_alt]
  simp only [aopH, rest]
  cases abuild P t (ps.map fun (i, x) => (i, ev x)) <;> rfl
theorem aop_buildSlice (t : TypeId) (n : Nat) (ps : Array (Nat × Operand)) : aop P ev ⟨dst, .buildSlice t n ps, ty, pos, after, none⟩ S = alt (abuildSlice P S t n (ps.map fun (i, x) => (i, ev x))) (rest P ev ⟨dst, .buildSlice t n ps, ty, pos, after, none⟩ S) := aop_alt _
theorem aop_load (t : TypeId) (a : Operand) : aop P ev ⟨dst, .load t a, ty, pos, after, none⟩ S = alt (lift S (aload P S t (ev a))) (rest P ev ⟨dst, .load t a, ty, pos, after, none⟩ S) := by
  rw [aop_alt]
  simp only [aopH, rest]
  cases aload P S t (ev a) <;> rfl
def liftS : Option St → Option (Value × St)
  | some S' => some (undef, S')
  | none => none
theorem liftS_none : liftS none = none := rfl
theorem liftS_some (S' : St) : liftS (some S') = some (undef, S') := rfl
theorem aop_store (t : TypeId) (a x : Operand) : aop P ev ⟨dst, .store t a x, ty, pos, after, none⟩ S = alt (liftS (astore P S t (ev a) (ev x))) (rest P ev ⟨dst, .store t a x, ty, pos, after, none⟩ S) := by
  rw [aop_alt]
  simp only [aopH, rest]
  cases astore P S t (ev a) (ev x) <;> rfl
def nilX : Value → Option Value
  | .pointer (some a) => some (.pointer (some a))
  | _ => none
theorem aop_nilCheck (x : Operand) : aop P ev ⟨dst, .nilCheck x, ty, pos, after, none⟩ S = alt (lift S (nilX (ev x))) (rest P ev ⟨dst, .nilCheck x, ty, pos, after, none⟩ S) := by
  rw [aop_alt]
  simp only [aopH, rest, nilX]
  split
  · rename_i a ha
    rw [ha]
    rfl
  · rename_i hn
    split
    · rename_i a ha
      exact absurd ha (hn a)
    · rfl
theorem nilX_some (a : Addr) : nilX (.pointer (some a)) = some (.pointer (some a)) := rfl
theorem aop_makeInterface (t : TypeId) (x : Operand) : aop P ev ⟨dst, .makeInterface t x, ty, pos, after, none⟩ S = alt (if P.concrete t = true then some (.iface t (ev x), S) else none) (rest P ev ⟨dst, .makeInterface t x, ty, pos, after, none⟩ S) := aop_alt _
theorem aop_makeFunc (fn : Fn) (f c : Array Operand) : aop P ev ⟨dst, .makeFunc fn f c, ty, pos, after, none⟩ S = some (.func fn (f.map ev) (c.map ev), S) := rfl
theorem aop_makeSlice (t : TypeId) (l c : Operand) : aop P ev ⟨dst, .makeSlice t l c, ty, pos, after, none⟩ S = alt (amakeSlice P S t (ev l) (ev c)) (rest P ev ⟨dst, .makeSlice t l c, ty, pos, after, none⟩ S) := aop_alt _
theorem aop_fieldAddr (s : TypeId) (x : Operand) (f : Nat) : aop P ev ⟨dst, .fieldAddr s x f, ty, pos, after, none⟩ S = alt (lift S (afieldAddr P s f (ev x))) (rest P ev ⟨dst, .fieldAddr s x f, ty, pos, after, none⟩ S) := by
  rw [aop_alt]
  simp only [aopH, rest]
  cases afieldAddr P s f (ev x) <;> rfl
theorem aop_field (t : TypeId) (x : Operand) (f : Nat) : aop P ev ⟨dst, .field t x f, ty, pos, after, none⟩ S = alt (lift S (afield P t f (ev x))) (rest P ev ⟨dst, .field t x f, ty, pos, after, none⟩ S) := by
  rw [aop_alt]
  simp only [aopH, rest]
  cases afield P t f (ev x) <;> rfl
theorem aop_indexAddr (t : TypeId) (x i : Operand) : aop P ev ⟨dst, .indexAddr t x i, ty, pos, after, none⟩ S = alt (lift S (aindexAddr P t (ev x) (ev i))) (rest P ev ⟨dst, .indexAddr t x i, ty, pos, after, none⟩ S) := by
  rw [aop_alt]
  simp only [aopH, rest]
  cases aindexAddr P t (ev x) (ev i) <;> rfl
def extX : Value → Nat → Option Value
  | .tuple vs, i => vs[i]?
  | _, _ => none
theorem aop_extract (t : Operand) (i : Nat) : aop P ev ⟨dst, .extract t i, ty, pos, after, none⟩ S = alt (lift S (extX (ev t) i)) (rest P ev ⟨dst, .extract t i, ty, pos, after, none⟩ S) := by
  rw [aop_alt]
  simp only [aopH, rest, extX]
  cases ht : ev t with
  | tuple vs => simp only; cases vs[i]? <;> rfl
  | _ => rfl
theorem extX_tuple (l : List Value) (i : Nat) : extX (.tuple l.toArray) i = l[i]? := by simp [extX]
def ssX (P : Program) (t : TypeId) (x : Value) (lo hi mx : Option Value) : Option Value :=
  if scalar x = true ∧ (lo.map scalar).getD true = true ∧ (hi.map scalar).getD true = true ∧ (mx.map scalar).getD true = true then
    match pureRun P (Instr.sliceAt t x lo hi mx) with
    | some v => if scalar v = true then some v else none
    | none => none
  else none
theorem aop_slice (t : TypeId) (x : Operand) (lo hi mx : Option Operand) : aop P ev ⟨dst, .slice t x lo hi mx, ty, pos, after, none⟩ S = alt (lift S (aslice P t (ev x) (lo.map ev) (hi.map ev) (mx.map ev))) (lift S (ssX P t (ev x) (lo.map ev) (hi.map ev) (mx.map ev))) := by
  cases ha : aslice P t (ev x) (lo.map ev) (hi.map ev) (mx.map ev) with
  | some v => simp only [aop, aopH, ha, lift, alt]
  | none =>
    rw [aop_scalar (xs := [x] ++ lo.toList ++ hi.toList ++ mx.toList) (X := Instr.sliceAt t (ev x) (lo.map ev) (hi.map ev) (mx.map ev)) (by simp only [aopH, ha]) rfl (by cases lo <;> cases hi <;> cases mx <;> simp [Op.operands]) (fun _ _ _ _ _ => rfl)]
    simp only [lift, alt, ssX]
    cases lo <;> cases hi <;> cases mx <;> simp [and_assoc]
theorem ssX_lh (t : TypeId) (s : ByteArray) (k k' : IntKind) (l h : Int) (hu : P.underlying t = some .string) (h0 : 0 ≤ l) (h1 : l ≤ h) (h2 : h ≤ s.size) : ssX P t (.string s) (some (.int k l)) (some (.int k' h)) none = some (.string (s.extract l.toNat h.toNat)) := by
  have e : (h.toNat : Int) = h := Int.toNat_of_nonneg (by omega)
  have hl : l ≤ (h.toNat : Int) := by omega
  have hpu : pureRun P (underlying t) = some .string := by simp [underlying, program, pureRun, pureRun_bind, Bind.bind, Sem.bind, hu, pure]
  simp [ssX, scalar, leaf, Instr.sliceAt, Instr.slice, pureRun_bind, hpu, Instr.sliceBounds, Instr.sliceBound, asIntOf, pureRun_pure, h0, h1, h2, show max h 0 = h by omega, show (0 : Int) ≤ h by omega]
theorem ssX_l (t : TypeId) (s : ByteArray) (k : IntKind) (l : Int) (hu : P.underlying t = some .string) (h0 : 0 ≤ l) (h1 : l ≤ s.size) : ssX P t (.string s) (some (.int k l)) none none = some (.string (s.extract l.toNat s.size)) := by
  have hpu : pureRun P (underlying t) = some .string := by simp [underlying, program, pureRun, pureRun_bind, Bind.bind, Sem.bind, hu, pure]
  simp [ssX, scalar, leaf, Instr.sliceAt, Instr.slice, pureRun_bind, hpu, Instr.sliceBounds, Instr.sliceBound, asIntOf, pureRun_pure, h0, h1]
theorem ssX_h (t : TypeId) (s : ByteArray) (k : IntKind) (h : Int) (hu : P.underlying t = some .string) (h0 : 0 ≤ h) (h1 : h ≤ s.size) : ssX P t (.string s) none (some (.int k h)) none = some (.string (s.extract 0 h.toNat)) := by
  have hpu : pureRun P (underlying t) = some .string := by simp [underlying, program, pureRun, pureRun_bind, Bind.bind, Sem.bind, hu, pure]
  simp [ssX, scalar, leaf, Instr.sliceAt, Instr.slice, pureRun_bind, hpu, Instr.sliceBounds, Instr.sliceBound, asIntOf, pureRun_pure, h0, h1]
theorem aslice_string (t : TypeId) (s : ByteArray) (lo hi mx : Option Value) : aslice P t (.string s) lo hi mx = none := by
  unfold aslice
  split
  · split <;> first | rfl | simp_all
  · rfl
def ixX (P : Program) (t : TypeId) (x i : Value) : Option Value :=
  if scalar x = true ∧ scalar i = true then
    match pureRun P (Instr.index t x i) with
    | some v => if scalar v = true then some v else none
    | none => none
  else none
theorem aop_index (t : TypeId) (x i : Operand) : aop P ev ⟨dst, .index t x i, ty, pos, after, none⟩ S = alt (lift S (aindex P t (ev x) (ev i))) (lift S (ixX P t (ev x) (ev i))) := by
  cases ha : aindex P t (ev x) (ev i) with
  | some v => simp only [aop, aopH, ha, lift, alt]
  | none =>
    rw [aop_scalar (xs := [x, i]) (X := Instr.index t (ev x) (ev i)) (by simp only [aopH, ha]) rfl (by simp [Op.operands]) (fun _ _ _ _ _ => rfl)]
    simp only [lift, alt, ixX, List.all_cons, List.all_nil, Bool.and_true, Bool.and_eq_true]
theorem aindex_string (t : TypeId) (s : ByteArray) (i : Value) : aindex P t (.string s) i = none := by
  unfold aindex
  split <;> first | rfl | simp_all
theorem ixX_string (t : TypeId) (s : ByteArray) (k : IntKind) (i : Int) (hu : P.underlying t = some .string) (h0 : 0 ≤ i) (h1 : i < s.size) : ixX P t (.string s) (.int k i) = some (.int .u8 ((s.data.toList.getD i.toNat 0).toNat : Int)) := by
  have hpu : pureRun P (underlying t) = some .string := by simp [underlying, program, pureRun, pureRun_bind, Bind.bind, Sem.bind, hu, pure]
  have hlt : i.toNat < s.size := by omega
  have e1 : s[i.toNat]? = some (s.data.toList.getD i.toNat 0) := by
    have : i.toNat < s.data.size := hlt
    simp [getElem?_pos, hlt, List.getD, this]
    rfl
  simp [ixX, scalar, leaf, Instr.index, pureRun_bind, hpu, asIntOf, pureRun_pure, h0, e1]
def cvX (P : Program) (src d : TypeId) (x : Value) : Option Value :=
  if scalar x = true then
    match pureRun P (convert src d x) with
    | some v => if scalar v = true then some v else none
    | none => none
  else none
theorem aop_convert (src d : TypeId) (x : Operand) : aop P ev ⟨dst, .convert src d x, ty, pos, after, none⟩ S = alt (aconvert P S src d (ev x)) (lift S (cvX P src d (ev x))) := by
  cases ha : aconvert P S src d (ev x) with
  | some v => simp only [aop, aopH, ha, alt]
  | none =>
    rw [aop_scalar (xs := [x]) (X := convert src d (ev x)) (by simp only [aopH, ha]) rfl (by simp [Op.operands]) (fun _ _ _ _ _ => rfl)]
    simp only [lift, alt, cvX, List.all_cons, List.all_nil, Bool.and_true]
theorem aconvert_int (src d : TypeId) (k : IntKind) (n : Int) : aconvert P S src d (.int k n) = none := by
  unfold aconvert
  split <;> first | rfl | simp_all
def iKind (P : Program) (t : TypeId) : Option IntKind :=
  match P.underlying t with
  | some (.int k) => some k
  | _ => none
theorem cvX_int (src d : TypeId) (k : IntKind) (n : Int) (hs : (P.underlying src).isSome = true) (k' : IntKind) (hd : P.underlying d = some (.int k')) : cvX P src d (.int k n) = some (.int k' (k'.wrap n)) := by
  obtain ⟨q, hq⟩ := Option.isSome_iff_exists.1 hs
  have h1 : pureRun P (underlying src) = some q := by simp [underlying, program, pureRun, pureRun_bind, Bind.bind, Sem.bind, hq, pure]
  have h2 : pureRun P (underlying d) = some (.int k') := by simp [underlying, program, pureRun, pureRun_bind, Bind.bind, Sem.bind, hd, pure]
  simp [cvX, scalar, leaf, convert, pureRun_bind, h1, h2, Conv.intToInt, pureRun_pure]
theorem aop_builtin (b : Builtin) (args : Array Operand) (ts : Array TypeId) : aop P ev ⟨dst, .call ⟨.builtin b, args, ts⟩, ty, pos, after, none⟩ S = alt (abuiltin P S b ts.toList (args.toList.map ev)) (ascalar P ev ⟨dst, .call ⟨.builtin b, args, ts⟩, ty, pos, after, none⟩ S) := aop_alt _
theorem aop_typeAssert (x : Operand) (xt t : TypeId) (ok : Bool) : aop P ev ⟨dst, .typeAssert x xt t ok, ty, pos, after, none⟩ S = alt (lift S (atypeAssert P t ok (ev x))) (ascalar P ev ⟨dst, .typeAssert x xt t ok, ty, pos, after, none⟩ S) := by
  rw [aop_alt]
  simp only [aopH]
  cases atypeAssert P t ok (ev x) <;> rfl
end
end Go.Proofs.YtdfgdpjlbcnkfaaDoorAbs
namespace Go.Proofs.YtdfgdpjlbcnkfaaDoorAbs
set_option linter.unusedVariables false
set_option linter.unusedSimpArgs false

/-! ## The beginning of a law -/
structure Start (P : Program) (ρ : Ren) (S : St) (w : World) : Prop where
  rel : Rel P ρ S w
  wf : S.WF
  new : ∀ b L, S.next ≤ b → ρ b L = none
  low : S.next ≤ S.low
  their : ∀ b blk, S.get b = some blk → blk.own = false
def St.start (G : Nat) (gl : Nat → Option (List Value)) : St := { get := fun i => if i ≤ G then (gl i).map fun cs => ⟨cs, 0, false, 0⟩ else none, next := G + 1, low := G + 1 }
def Ren.start (G : Nat) : Ren := fun b L => if b ≤ G ∧ L = 0 then some ⟨b, 0, 0, 0, 0, false⟩ else none
def St.theirs (S : St) (cs : List Value) : St := { get := fun i => if i = S.next then some ⟨cs, 0, false, 0⟩ else S.get i, next := S.next + 1, low := S.next + 1 }
section
variable {P : Program} {ρ : Ren} {S : St} {w : World}
theorem start0 (gl : Nat → Option (List Value)) (hG : P.globals.size < w.heap.size)
    (hg : ∀ g cs, g ≤ P.globals.size → gl g = some cs → ∀ (j : Nat) (v : Value), cs[j]? = some v → ∃ v', w.cell? ⟨g, j, none⟩ = some v' ∧ VR (Ren.start P.globals.size) v v') :
    Start P (Ren.start P.globals.size) (St.start P.globals.size gl) w := by
  have hr : ∀ b L loc, Ren.start P.globals.size b L = some loc → b ≤ P.globals.size ∧ L = 0 ∧ loc = ⟨b, 0, 0, 0, 0, false⟩ := by
    intro b L loc h
    unfold Ren.start at h
    split at h
    · rename_i hb; cases h; exact ⟨hb.1, hb.2, rfl⟩
    · cases h
  refine ⟨⟨fun g h => by simp [Ren.start, h], fun b L loc h => ?_, fun b L loc blk h hb => ?_, fun b L loc b' L' loc' h h' ho => ?_⟩, fun b hb => ?_, fun b L hb => ?_, Nat.le_refl _, fun b blk hb => ?_⟩
  · obtain ⟨h1, rfl, rfl⟩ := hr _ _ _ h
    show b < _
    omega
  · obtain ⟨h1, rfl, rfl⟩ := hr _ _ _ h
    simp only [St.start, h1, if_true, Option.map_eq_some_iff] at hb
    obtain ⟨cs, hcs, rfl⟩ := hb
    refine ⟨rfl, fun h => (by cases h), fun _ j v _ _ hj => ?_⟩
    obtain ⟨v', e1, e2⟩ := hg b cs h1 hcs j v hj
    exact ⟨j, v', by simp, e1, e2⟩
  · obtain ⟨h1, rfl, rfl⟩ := hr _ _ _ h
    cases ho
  · simp only [St.start] at hb ⊢
    rw [if_neg (by omega)]
  · simp only [St.start] at hb
    simp only [Ren.start]
    rw [if_neg (by omega)]
  · simp only [St.start] at hb
    split at hb
    · obtain ⟨cs, _, rfl⟩ := Option.map_eq_some_iff.1 hb; rfl
    · cases hb
/-- A row of the caller's. -/
theorem Start.row (h : Start P ρ S w) (size : Nat) (cs : List Value) (A : Option Addr) (n C : Nat) (hn : n ≤ C) (h0 : n = 0 ↔ cs = [])
    (hc : 0 < n → ∃ ad, A = some ad ∧ ∀ (j : Nat) (v : Value), cs[j]? = some v → ∃ v', w.cell? (ad.add j) = some v' ∧ VR ρ v v') :
    ∃ ρ', ρ.le ρ' ∧ Start P ρ' (S.theirs cs) w ∧ VR ρ' (.slice (some ⟨S.next, 0, some 0⟩) n (UNK + size)) (.slice A n C) := by
  obtain ⟨loc, ho, hlo, hlt, hcell, hv⟩ : ∃ loc : Loc, loc.own = false ∧ loc.lo = 0 ∧ loc.B < w.heap.size ∧ (∀ (j : Nat) (v : Value), cs[j]? = some v → ∃ (A : Nat) (v' : Value), (A : Int) = loc.base + j ∧ w.cell? ⟨loc.B, A, none⟩ = some v' ∧ VR ρ v v') ∧
      (∀ ρ' : Ren, ρ' S.next 0 = some loc → VR ρ' (.slice (some ⟨S.next, 0, some 0⟩) n (UNK + size)) (.slice A n C)) := by
    by_cases hz : n = 0
    · subst hz
      have hcs := h0.1 rfl
      subst hcs
      refine ⟨⟨0, 0, 0, 0, 0, false⟩, rfl, rfl, ?_, fun j v hj => by simp at hj, fun ρ' hr => ?_⟩
      · exact h.rel.loc 0 0 _ (h.rel.glob 0 (Nat.zero_le _))
      · exact .sl0 _ _ _ _ _ _ (.inr ⟨Nat.le_add_right _ _, _, hr, rfl⟩)
    · obtain ⟨⟨B, o, sp⟩, rfl, hcc⟩ := hc (by omega)
      have hne : cs ≠ [] := fun e => hz (h0.2 e)
      obtain ⟨c0, cs', rfl⟩ : ∃ c0 cs', cs = c0 :: cs' := by cases cs with | nil => exact absurd rfl hne | cons a b => exact ⟨a, b, rfl⟩
      obtain ⟨v0, e1, e2⟩ := hcc 0 c0 rfl
      have hsp : sp = none := by
        unfold World.cell? at e1
        split at e1
        · simp only [Addr.add] at e1
          cases sp with
          | none => rfl
          | some s => simp at e1
        · cases e1
      subst hsp
      have hB : B < w.heap.size := by
        unfold World.cell? at e1
        split at e1
        · rename_i hh
          simp only [Addr.add] at hh
          exact (Array.getElem?_eq_some_iff.1 hh).1
        · cases e1
      refine ⟨⟨B, o, 0, 0, 0, false⟩, rfl, rfl, hB, fun j v hj => ?_, fun ρ' hr => ?_⟩
      · obtain ⟨v', k1, k2⟩ := hcc j v hj
        refine ⟨o + j, v', by simp, ?_, k2⟩
        have e : Addr.add ⟨B, o, none⟩ j = ⟨B, o + j, none⟩ := by unfold Addr.add; split <;> simp_all
        rw [← e]; exact k1
      · exact .sl S.next 0 0 o n (UNK + size) C ⟨B, o, 0, 0, 0, false⟩ hr (Nat.le_refl _) (by simp) (.inl (Nat.le_add_right _ _)) hn (fun h => by cases h)
  have hle : ρ.le (ρ.add S.next 0 loc) := by
    intro b L l hb
    unfold Ren.add
    rw [if_neg]
    · exact hb
    · rintro ⟨rfl, rfl⟩
      rw [h.new _ _ (Nat.le_refl _)] at hb
      cases hb
  have hr : ∀ b L l, ρ.add S.next 0 loc b L = some l → (b = S.next ∧ L = 0 ∧ l = loc) ∨ (b < S.next ∧ ρ b L = some l) := by
    intro b L l hb
    unfold Ren.add at hb
    split at hb
    · rename_i hh; cases hb; exact .inl ⟨hh.1, hh.2, rfl⟩
    · refine .inr ⟨?_, hb⟩
      by_cases hlt : b < S.next
      · exact hlt
      · rw [h.new b L (by omega)] at hb; cases hb
  refine ⟨ρ.add S.next 0 loc, hle, ⟨⟨fun g hg => hle _ _ _ (h.rel.glob g hg), fun b L l hb => ?_, fun b L l blk hb hk => ?_, fun b L l b' L' l' hb hb' hown hB a a' => ?_⟩, fun b hb => ?_, fun b L hb => ?_, Nat.le_refl _, fun b blk hb => ?_⟩, hv _ (by simp [Ren.add])⟩
  · rcases hr _ _ _ hb with ⟨rfl, rfl, rfl⟩ | ⟨_, hb⟩
    · exact hlt
    · exact h.rel.loc _ _ _ hb
  · rcases hr _ _ _ hb with ⟨rfl, rfl, rfl⟩ | ⟨hlt', hb⟩
    · simp only [St.theirs, if_true] at hk
      cases hk
      refine ⟨ho.symm, fun q => (by rw [ho] at q; cases q), fun _ j v _ _ hj => ?_⟩
      obtain ⟨A', v', e1, e2, e3⟩ := hcell j v hj
      exact ⟨A', v', e1, e2, e3.mono hle⟩
    · simp only [St.theirs] at hk
      rw [if_neg (by omega)] at hk
      have q := h.rel.blk _ _ _ _ hb hk
      refine ⟨q.own, q.row, fun a j v h1 h2 h3 => ?_⟩
      obtain ⟨A', v', e1, e2, e3⟩ := q.cells a j v h1 h2 h3
      exact ⟨A', v', e1, e2, e3.mono hle⟩
  · have al : ∀ b L, b < S.next → Alive (S.theirs cs) b L → Alive S b L := by
      rintro b L hlt' ⟨blk, g, k⟩
      simp only [St.theirs] at g
      rw [if_neg (by omega)] at g
      exact ⟨blk, g, k⟩
    rcases hr _ _ _ hb with ⟨e1, e2, e3⟩ | ⟨hl1, hb1⟩
    · rw [e3, ho] at hown; cases hown
    · rcases hr _ _ _ hb' with ⟨e1, e2, e3⟩ | ⟨hl2, hb2⟩
      · exfalso
        obtain ⟨blk, g, k⟩ := al _ _ hl1 a
        have q := h.rel.blk _ _ _ _ hb1 g
        have := h.their _ _ g
        rw [q.own, hown] at this
        cases this
      · exact h.rel.inj _ _ _ _ _ _ hb1 hb2 hown hB (al _ _ hl1 a) (al _ _ hl2 a')
  · simp only [St.theirs] at hb ⊢
    rw [if_neg (by omega)]
    exact h.wf b (by omega)
  · simp only [St.theirs] at hb
    unfold Ren.add
    rw [if_neg (by omega)]
    exact h.new b L (by omega)
  · simp only [St.theirs] at hb
    split at hb
    · cases hb; rfl
    · exact h.their _ _ hb
theorem Start.law {I : Prims} (h : Start P ρ S w) (hI : PrimSim P I) (hm : P.follows .mixedOrders = true) {f : Nat} {xs ys : Array Value} {u : Value} (hs : scalar u = true) (hx : VRL ρ xs.toList ys.toList)
    (hc : C P I f xs S fun v _ => v = u) : Calls P f ys w fun e w' => e = .returned u ∧ RowKit.Below w.heap.size w w' := by
  obtain ⟨v, S', ⟨k, hk⟩, rfl⟩ := hc
  exact law_of_run hI hm (hk k (Nat.le_refl _)) hs h.rel h.wf hx h.new h.low h.their

/-! ## A prim that leaves the memory as it is -/
theorem step_below {w' : World} (h : Rel P ρ S w) (hb : RowKit.Below w.heap.size w w') : Step P ρ S w ρ S w' := by
  obtain ⟨b1, b2, b3, b4, b5⟩ := hb
  have hcell : ∀ B A v, B < w.heap.size → w.cell? ⟨B, A, none⟩ = some v → w'.cell? ⟨B, A, none⟩ = some v := by
    intro B A v hB hc
    unfold World.cell? at hc ⊢
    simp only [b5 B hB]
    exact hc
  refine ⟨Ren.le_refl ρ, ⟨b1, b2, b3⟩, ⟨h.glob, fun b L loc k => Nat.lt_of_lt_of_le (h.loc b L loc k) b4, fun b L loc blk k g => ?_, h.inj⟩, b4, Nat.le_refl _, Nat.le_refl _, fun b L loc h1 h2 => (by rw [h1] at h2; cases h2), fun m B _ _ hB _ => b5 B hB⟩
  have q := h.blk b L loc blk k g
  have hB := h.loc b L loc k
  refine ⟨q.own, fun o => ?_, fun a j v h1 h2 h3 => ?_⟩
  · obtain ⟨k1, k2, k3, k4⟩ := q.row o
    refine ⟨k1, k2, k3, ?_⟩
    rw [b5 _ hB]
    exact k4
  · obtain ⟨A, v', e1, e2, e3⟩ := q.cells a j v h1 h2 h3
    exact ⟨A, v', e1, hcell _ _ _ hB e2, e3⟩
/-- Prims given one by one. -/
structure Still (P : Program) (f : FuncId) (p : Array Value → St → Option Value) : Prop where
  sim : ∀ xs S v, p xs S = some v → ∀ (ρ : Ren) (w : World) (ys : Array Value), Rel P ρ S w → VRL ρ xs.toList ys.toList → Calls P f ys w fun e w' => ∃ cv, e = .returned cv ∧ VR ρ v cv ∧ RowKit.Below w.heap.size w w'
def stills (l : List (FuncId × (Nat → Array Value → St → Option Value))) : Prims := fun k f =>
  match l.find? (·.1 == f) with
  | some p => some fun xs S => (p.2 k xs S).map (·, S)
  | none => none
theorem stills_sim {l : List (FuncId × (Nat → Array Value → St → Option Value))} (h : ∀ x ∈ l, ∀ k, Still P x.1 (x.2 k)) : PrimSim P (stills l) := by
  have key : ∀ k f p, stills l k f = some p → ∃ q, Still P f q ∧ p = fun xs S => (q xs S).map (·, S) := by
    intro k f p hp
    unfold stills at hp
    split at hp
    · rename_i x hx
      cases hp
      have hm := List.mem_of_find?_eq_some hx
      have he := List.find?_some hx
      simp only [beq_iff_eq] at he
      subst he
      exact ⟨_, h x hm k, rfl⟩
    · cases hp
  refine ⟨fun k f p hp xs S v S' hr => ?_, fun k f p hp xs S v S' hr ρ w ys hrel _ hxs _ => ?_⟩
  · obtain ⟨q, _, rfl⟩ := key k f p hp
    obtain ⟨u, _, he⟩ := Option.map_eq_some_iff.1 hr
    cases he
    exact Mono.refl S
  · obtain ⟨q, hq, rfl⟩ := key k f p hp
    obtain ⟨u, hu, he⟩ := Option.map_eq_some_iff.1 hr
    cases he
    refine (hq.sim xs S v hu ρ w ys hrel hxs).mono ?_
    rintro e w' ⟨cv, rfl, hv, hb⟩
    exact ⟨ρ, cv, rfl, hv, step_below hrel hb⟩
end
end Go.Proofs.YtdfgdpjlbcnkfaaDoorAbs
namespace Go.Proofs.YtdfgdpjlbcnkfaaDoorAbs
set_option linter.unusedVariables false
set_option linter.unusedSimpArgs false

/-! ## Rows that grow -/
def blkOf : Value → Option Nat
  | .slice (some a) _ _ => some a.block
  | _ => none
theorem blkOf_nil (n c : Nat) : blkOf (.slice none n c) = none := rfl
/-- A row of n elements that is the call's own and may be appended to: these cells. -/
def Own (elem size : Nat) (S : St) (v : Value) (n : Nat) (xs : List Value) : Prop :=
  xs.length = n * size ∧ xs.all oneC = true ∧ ((v = .slice none 0 0 ∧ n = 0) ∨ ∃ b m, v = .slice (some ⟨b, 0, some xs.length⟩) n (UNK + size) ∧ S.get b = some ⟨xs, elem, true, m⟩ ∧ m ≤ xs.length ∧ b < S.next ∧ 0 < n)
/-- What stood stays, but for one block. -/
def Kept (S S' : St) (o : Option Nat) : Prop := S.next ≤ S'.next ∧ ∀ i, i < S.next → o ≠ some i → S'.get i = S.get i
theorem Kept.refl (S : St) (o : Option Nat) : Kept S S o := ⟨Nat.le_refl _, fun _ _ _ => rfl⟩
theorem Kept.trans {S S1 S2 : St} {o : Option Nat} (h : Kept S S1 o) (k : Kept S1 S2 o) : Kept S S2 o := ⟨Nat.le_trans h.1 k.1, fun i hi ho => (k.2 i (Nat.lt_of_lt_of_le hi h.1) ho).trans (h.2 i hi ho)⟩
theorem Kept.any {S S' : St} {o : Option Nat} (h : Kept S S' none) : Kept S S' o := ⟨h.1, fun i hi _ => h.2 i hi (by simp)⟩
theorem Kept.push {S : St} (b : Blk) (o : Option Nat) : Kept S (S.push b) o := ⟨Nat.le_succ _, fun i hi _ => S.get_push_lt b hi⟩
theorem Own.nil (elem size : Nat) (S : St) : Own elem size S (.slice none 0 0) 0 [] := ⟨by simp, rfl, .inl ⟨rfl, rfl⟩⟩
theorem Own.kept {elem size : Nat} {S S' : St} {v : Value} {n : Nat} {xs : List Value} {o : Option Nat} (h : Own elem size S v n xs) (k : Kept S S' o) (ho : o = none ∨ o ≠ blkOf v) : Own elem size S' v n xs := by
  refine ⟨h.1, h.2.1, ?_⟩
  rcases h.2.2 with h' | ⟨b, m, rfl, h1, h2, h3, h4⟩
  · exact .inl h'
  · refine .inr ⟨b, m, rfl, ?_, h2, Nat.lt_of_lt_of_le h3 k.1, h4⟩
    rw [k.2 b h3 (by rcases ho with rfl | ho
                     · simp
                     · simpa [blkOf] using ho)]
    exact h1
section
variable {P : Program} {I : Prims} {ops : Array Oper} {r : List Oper} {Q : Env → St → Prop} {e : Env} {S : St} {dst : Option Tmp} {ty : TypeId} {pos : String} {after : Array Edge}
theorem own_slice {S : St} {elem size n : Nat} {v : Value} {xs : List Value} (h : Own elem size S v n xs) : ∃ a c, v = .slice a n c := by
  rcases h.2.2 with ⟨rfl, rfl⟩ | ⟨b, m, rfl, _⟩
  · exact ⟨_, _, rfl⟩
  · exact ⟨_, _, rfl⟩
theorem asrc_own {tx t elem size n : Nat} {v : Value} {xs : List Value} (h : Own elem size S v n xs) (hu : P.underlying tx = some (.slice t)) : asrc P S tx size v = some (n, xs) := by
  obtain ⟨h0, h1, h2⟩ := h
  rcases h2 with ⟨rfl, rfl⟩ | ⟨b, m, rfl, h2, h3, h4, h5⟩
  · have : xs = [] := by simpa using h0
    subst this
    simp [asrc, hu]
  · simp only [asrc, hu]
    rw [if_neg (by omega)]
    have : aread S ⟨b, 0, some xs.length⟩ (n * size) = some xs := by
      unfold aread
      simp only [h2]
      rw [if_pos ⟨fun _ => ⟨h3, by simp; omega⟩, by simp; omega⟩, List.drop_zero, ← h0, List.take_length]
    simp only [this, h1, if_true]
theorem asrc_theirs {tx t size b o L n c : Nat} {cs : List Value} {el m : Nat} (hu : P.underlying tx = some (.slice t)) (hb : S.get b = some ⟨cs, el, false, m⟩) (hl : o + n * size ≤ cs.length) (h1 : cs.all oneC = true) :
    asrc P S tx size (.slice (some ⟨b, o, some L⟩) n c) = some (n, (cs.drop o).take (n * size)) := by
  simp only [asrc, hu]
  by_cases hn : n = 0
  · subst hn
    simp
  · rw [if_neg hn]
    have : aread S ⟨b, o, some L⟩ (n * size) = some ((cs.drop o).take (n * size)) := by
      unfold aread
      simp only [hb]
      rw [if_pos ⟨fun h => (by cases h), hl⟩]
    simp only [this]
    rw [if_pos]
    rw [List.all_eq_true] at h1 ⊢
    exact fun x hx => h1 x (List.mem_of_mem_drop (List.mem_of_mem_take hx))
theorem append_own {t tx elem size bytes n m : Nat} {z v x : Value} {xs ys : List Value} (hu : P.underlying t = some (.slice elem)) (hs : asize P elem = some size) (hb : abytes P elem = some bytes) (hz : azero P elem = some z)
    (hc : 0 < size ∧ 0 < bytes ∧ z.cells.size = size) (ho : Own elem size S v n xs) (hx : asrc P S tx size x = some (m, ys)) (hy : ys.length = m * size ∧ ys.all oneC = true) (hl : (3 * (n + m) + 2048) * bytes ≤ 281474976710656) :
    ∃ v' S', aappend P S t tx v x = some (v', S') ∧ Own elem size S' v' (n + m) (xs ++ ys) ∧ Kept S S' (blkOf v) ∧ (blkOf v' = blkOf v ∨ ∃ i, S.next ≤ i ∧ blkOf v' = some i) := by
  obtain ⟨h0, h1, h2⟩ := ho
  have hlen : (xs ++ ys).length = (n + m) * size := by rw [List.length_append, h0, hy.1, Nat.add_mul]
  have hall : (xs ++ ys).all oneC = true := by rw [List.all_append, h1, hy.2]; rfl
  by_cases hm : m = 0
  · subst hm
    have : ys = [] := by simpa using hy.1
    subst this
    refine ⟨v, S, ?_, by simpa using ⟨h0, by simpa using h1, h2⟩, Kept.refl S _, .inl rfl⟩
    rcases h2 with ⟨rfl, rfl⟩ | ⟨b, m', rfl, h2, h3, h4, h5⟩
    · simp [aappend, hu, hs, hb, hz, hc, hx]
    · simp [aappend, hu, hs, hb, hz, hc, hx]
  · rcases h2 with ⟨rfl, rfl⟩ | ⟨b, m', rfl, h2, h3, h4, h5⟩
    · have : xs = [] := by simpa using h0
      subst this
      simp only [Nat.zero_add] at hl hlen
      refine ⟨_, _, ?_, ⟨hlen.trans (by simp), by simpa using hy.2, .inr ⟨S.next, 0, rfl, ?_, Nat.zero_le _, ?_, by omega⟩⟩, Kept.push ⟨ys, elem, true, 0⟩ _, .inr ⟨S.next, Nat.le_refl _, rfl⟩⟩
      · simp only [aappend, hu, hs, hb, hz, hc, hx, and_self, if_true, if_neg hm]
        rw [if_pos hl]
        simp
      · simpa using S.get_push_self _
      · simp
    · refine ⟨_, _, ?_, ⟨hlen, hall, .inr ⟨b, m', rfl, S.get_upd_self b _, ?_, h4, by omega⟩⟩, ⟨Nat.le_refl _, fun i hi hne => S.get_upd_ne _ (fun e => hne (by simp [blkOf, e]))⟩, .inl rfl⟩
      · simp only [aappend, hu, hs, hb, hz, hc, hx, and_self, if_true, if_neg hm, h2]
        rw [if_pos ⟨trivial, trivial, h3, by simp [h0], h4, trivial, hl⟩]
        simp [List.length_append]
      · rw [List.length_append]; omega
/-- An append among the operations. -/
theorem O_append {s x : Operand} {t tx elem size bytes n m : Nat} {z : Value} {xs ys : List Value} (hu : P.underlying t = some (.slice elem)) (hs : asize P elem = some size) (hb : abytes P elem = some bytes) (hz : azero P elem = some z)
    (hc : 0 < size ∧ 0 < bytes ∧ z.cells.size = size) (ho : Own elem size S (e.ev s) n xs) (hx : asrc P S tx size (e.ev x) = some (m, ys)) (hy : ys.length = m * size ∧ ys.all oneC = true) (hl : (3 * (n + m) + 2048) * bytes ≤ 281474976710656)
    (hk : ∀ v' S', Own elem size S' v' (n + m) (xs ++ ys) → Kept S S' (blkOf (e.ev s)) → (blkOf v' = blkOf (e.ev s) ∨ ∃ i, S.next ≤ i ∧ blkOf v' = some i) → O P I ops r [] Q (e.putO dst v') S') :
    O P I ops (⟨dst, .call ⟨.builtin .append, #[s, x], #[t, tx]⟩, ty, pos, after, none⟩ :: r) [] Q e S := by
  obtain ⟨v', S', h1, h2, h3, h4⟩ := append_own hu hs hb hz hc ho hx hy hl
  rw [O_step rfl]
  have : aop P e.ev ⟨dst, .call ⟨.builtin .append, #[s, x], #[t, tx]⟩, ty, pos, after, none⟩ S = some (v', S') := by
    rw [aop_builtin]
    show alt (aappend P S t tx (e.ev s) (e.ev x)) _ = _
    rw [h1, alt_some]
  rw [this]
  exact ⟨rfl, hk v' S' h2 h3 h4⟩
def isStop : Op → Bool
  | .call ⟨.value _, _, _⟩ => true
  | .call ⟨.builtin .append, _, _⟩ => true
  | _ => false
theorem O_go {op : Op} (h : isStop op = false) : O P I ops (⟨dst, op, ty, pos, after, none⟩ :: r) [] Q e S = (okO (aop P e.ev ⟨dst, op, ty, pos, after, none⟩ S) ∧ O P I ops r [] Q (e.putO dst (vO (aop P e.ev ⟨dst, op, ty, pos, after, none⟩ S))) (sO (aop P e.ev ⟨dst, op, ty, pos, after, none⟩ S))) := by
  refine O_step ?_
  cases op
  case call c =>
    obtain ⟨callee, args, ts⟩ := c
    cases callee
    case value f => cases h
    all_goals rfl
  all_goals rfl

/-! ### In drawn regions -/
theorem W_drawn {id : Nat} {l : List Oper} {K : AExit → Env → St → Prop} {fl : List Bool} (h : flagsOf l.toArray = fl) (k : O P I l.toArray l fl (K .normal) e S) : W P I (.region id l.toArray true) K e S := by
  subst h
  exact k
theorem O_end : O P I ops [] [] Q e S = Q e S := rfl
section
variable {fl : List Bool}
theorem O_goF {op : Op} (h : isStop op = false) : O P I ops (⟨dst, op, ty, pos, after, none⟩ :: r) (false :: fl) Q e S = (okO (aop P e.ev ⟨dst, op, ty, pos, after, none⟩ S) ∧ O P I ops r fl Q (e.putO dst (vO (aop P e.ev ⟨dst, op, ty, pos, after, none⟩ S))) (sO (aop P e.ev ⟨dst, op, ty, pos, after, none⟩ S))) := by
  rw [O]
  simp only [wants, if_true, List.headD_cons, List.tail_cons]
  have e1 : ∀ o : Option (Value × St), (∃ v S', o = some (v, S') ∧ O P I ops r fl Q (e.putO dst v) S') ↔ (okO o ∧ O P I ops r fl Q (e.putO dst (vO o)) (sO o)) := by
    intro o
    cases o with
    | none => exact ⟨fun ⟨_, _, h, _⟩ => (by cases h), fun h => (by cases h.1)⟩
    | some q => exact ⟨fun ⟨v, S', h, k⟩ => (by cases h; exact ⟨rfl, k⟩), fun h => ⟨q.1, q.2, rfl, h.2⟩⟩
  cases op
  case call c =>
    obtain ⟨callee, args, ts⟩ := c
    cases callee
    case value f => cases h
    all_goals exact propext (e1 _)
  all_goals exact propext (e1 _)
theorem O_goT {op : Op} (h : (isStop op || isP op) = false) : O P I ops (⟨dst, op, ty, pos, after, none⟩ :: r) (true :: fl) Q e S = (okO (aop P e.ev ⟨dst, op, ty, pos, after, none⟩ (S.withLow S.next)) ∧
    S.next ≤ (sO (aop P e.ev ⟨dst, op, ty, pos, after, none⟩ (S.withLow S.next))).low ∧ O P I ops r fl Q (e.putO dst (vO (aop P e.ev ⟨dst, op, ty, pos, after, none⟩ (S.withLow S.next)))) ((sO (aop P e.ev ⟨dst, op, ty, pos, after, none⟩ (S.withLow S.next))).withLow S.low)) := by
  rw [O]
  simp only [wants, if_true, List.headD_cons, List.tail_cons]
  have e1 : ∀ o : Option (Value × St), (∃ v S', o = some (v, S') ∧ S.next ≤ S'.low ∧ O P I ops r fl Q (e.putO dst v) (S'.withLow S.low)) ↔ (okO o ∧ S.next ≤ (sO o).low ∧ O P I ops r fl Q (e.putO dst (vO o)) ((sO o).withLow S.low)) := by
    intro o
    cases o with
    | none => exact ⟨fun ⟨_, _, h, _⟩ => (by cases h), fun h => (by cases h.1)⟩
    | some q => exact ⟨fun ⟨v, S', h, k⟩ => (by cases h; exact ⟨rfl, k⟩), fun h => ⟨q.1, q.2, rfl, h.2⟩⟩
  cases op
  case call c =>
    obtain ⟨callee, args, ts⟩ := c
    cases callee
    case value f => simp [isStop] at h
    all_goals exact propext (e1 _)
  all_goals exact propext (e1 _)
theorem aop_pure {op : Op} {ev : Operand → Value} (h : isP op = true) (S2 : St) : aop P ev ⟨dst, op, ty, pos, after, none⟩ S2 = (aop P ev ⟨dst, op, ty, pos, after, none⟩ S).map fun q => (q.1, S2) := by
  have e1 : ∀ S, arun P (fun _ _ _ => none) ev ⟨dst, op, ty, pos, after, none⟩ S = aop P ev ⟨dst, op, ty, pos, after, none⟩ S := by
    intro S
    unfold arun
    split
    · rename_i hop
      simp only at hop
      rw [hop] at h
      simp [isP] at h
    · rfl
  cases hA : aop P ev ⟨dst, op, ty, pos, after, none⟩ S with
  | some q =>
    obtain ⟨v, S'⟩ := q
    rw [← e1] at hA
    have := (pure_run (o := ⟨dst, op, ty, pos, after, none⟩) h hA).2 S2
    rw [e1] at this
    exact this
  | none =>
    cases hB : aop P ev ⟨dst, op, ty, pos, after, none⟩ S2 with
    | none => rfl
    | some q =>
      obtain ⟨v, S'⟩ := q
      rw [← e1] at hB
      have := (pure_run (o := ⟨dst, op, ty, pos, after, none⟩) h hB).2 S
      rw [e1, hA] at this
      cases this
theorem O_pure {op : Op} (h : isP op = true) : O P I ops (⟨dst, op, ty, pos, after, none⟩ :: r) (true :: fl) Q e S = (okO (aop P e.ev ⟨dst, op, ty, pos, after, none⟩ S) ∧ O P I ops r fl Q (e.putO dst (vO (aop P e.ev ⟨dst, op, ty, pos, after, none⟩ S))) S) := by
  rw [O]
  simp only [wants, if_true, List.headD_cons, List.tail_cons]
  have e1 : (∃ v S', aop P e.ev ⟨dst, op, ty, pos, after, none⟩ (S.withLow S.next) = some (v, S') ∧ S.next ≤ S'.low ∧ O P I ops r fl Q (e.putO dst v) (S'.withLow S.low)) ↔ (okO (aop P e.ev ⟨dst, op, ty, pos, after, none⟩ S) ∧ O P I ops r fl Q (e.putO dst (vO (aop P e.ev ⟨dst, op, ty, pos, after, none⟩ S))) S) := by
    rw [aop_pure (S := S) h (S.withLow S.next)]
    cases hA : aop P e.ev ⟨dst, op, ty, pos, after, none⟩ S with
    | none => exact ⟨fun ⟨_, _, h, _⟩ => (by cases h), fun h => (by cases h.1)⟩
    | some q => exact ⟨fun ⟨v, S', h, _, k⟩ => (by cases h; exact ⟨rfl, k⟩), fun h => ⟨q.1, S.withLow S.next, rfl, Nat.le_refl _, h.2⟩⟩
  cases op
  case call c =>
    obtain ⟨callee, args, ts⟩ := c
    cases callee
    case value f => cases h
    all_goals exact propext e1
  all_goals exact propext e1
/-- What comes behind a call that no other may pass. -/
def OKF (P : Program) (I : Prims) (ops : Array Oper) (r : List Oper) (fl : List Bool) (Q : Env → St → Prop) (dst : Option Tmp) (e : Env) : Value → St → Prop := fun v S' => O P I ops r fl Q (e.putO dst v) S'
theorem OKF_ap {fl : List Bool} {v : Value} {S' : St} : OKF P I ops r fl Q dst e v S' = O P I ops r fl Q (e.putO dst v) S' := rfl
theorem OK_ap {v : Value} {S' : St} : OK P I ops r Q dst e v S' = O P I ops r [] Q (e.putO dst v) S' := rfl
theorem O_callF {f : Operand} {args : Array Operand} {ts : Array TypeId} : O P I ops (⟨dst, .call ⟨.value f, args, ts⟩, ty, pos, after, none⟩ :: r) (false :: fl) Q e S =
    ((acallee (e.ev f) (args.map e.ev)).isSome = true ∧ callable P (callF (e.ev f) (args.map e.ev)) = true ∧ C P I (callF (e.ev f) (args.map e.ev)) (callX (e.ev f) (args.map e.ev)) S (OKF P I ops r fl Q dst e)) := by
  rw [O]
  simp only [wants, if_true, List.headD_cons, List.tail_cons, callF, callX]
  refine propext ⟨?_, ?_⟩
  · rintro ⟨g, xs, h1, h2, h3⟩
    rw [h1]
    exact ⟨rfl, h2, h3⟩
  · rintro ⟨h1, h2, h3⟩
    obtain ⟨q, hq⟩ := Option.isSome_iff_exists.1 h1
    rw [hq] at h2 h3
    exact ⟨q.1, q.2, hq, h2, h3⟩
theorem O_appendF {s x : Operand} {t tx elem size bytes n m : Nat} {z : Value} {xs ys : List Value} (hu : P.underlying t = some (.slice elem)) (hs : asize P elem = some size) (hb : abytes P elem = some bytes) (hz : azero P elem = some z)
    (hc : 0 < size ∧ 0 < bytes ∧ z.cells.size = size) (ho : Own elem size S (e.ev s) n xs) (hx : asrc P S tx size (e.ev x) = some (m, ys)) (hy : ys.length = m * size ∧ ys.all oneC = true) (hl : (3 * (n + m) + 2048) * bytes ≤ 281474976710656)
    (hk : ∀ v' S', Own elem size S' v' (n + m) (xs ++ ys) → Kept S S' (blkOf (e.ev s)) → (blkOf v' = blkOf (e.ev s) ∨ ∃ i, S.next ≤ i ∧ blkOf v' = some i) → O P I ops r fl Q (e.putO dst v') S') :
    O P I ops (⟨dst, .call ⟨.builtin .append, #[s, x], #[t, tx]⟩, ty, pos, after, none⟩ :: r) (false :: fl) Q e S := by
  obtain ⟨v', S', h1, h2, h3, h4⟩ := append_own hu hs hb hz hc ho hx hy hl
  unfold O
  rw [if_pos (show wants ops ⟨dst, .call ⟨.builtin .append, #[s, x], #[t, tx]⟩, ty, pos, after, none⟩ e = true from rfl)]
  refine ⟨v', S', ?_, hk v' S' h2 h3 h4⟩
  rw [aop_builtin]
  show alt (aappend P S t tx (e.ev s) (e.ev x)) _ = _
  rw [h1, alt_some]
end
theorem pkX_t (a b : Value) : pkX (.bool true) a b = some a := rfl
theorem pkX_f (a b : Value) : pkX (.bool false) a b = some b := rfl
theorem upd_upd (S : St) (i : Nat) (b b' : Blk) : (S.upd i b).upd i b' = S.upd i b' := by
  unfold St.upd
  congr 1
  · funext j
    by_cases e : j = i
    · simp [e]
    · simp [e]
  · show min (min S.low i) i = min S.low i
    omega
/-- The test that guards an operation. -/
def tmpOf (ops : Array Oper) (g : Nat) : Option Tmp := (ops[g]?).bind (·.dst)
theorem O_on {op : Op} {g t : Nat} {b : Bool} {fl : List Bool} (h : tmpOf ops g = some t) (h1 : e.get t = .bool b) : O P I ops (⟨dst, op, ty, pos, after, some (g, b)⟩ :: r) fl Q e S = O P I ops (⟨dst, op, ty, pos, after, none⟩ :: r) fl Q e S := by
  have hw : wants ops ⟨dst, op, ty, pos, after, some (g, b)⟩ e = true := by
    unfold tmpOf at h
    simp only [wants, h, h1, beq_self_eq_true]
  unfold O
  rw [if_pos hw, if_pos (show wants ops ⟨dst, op, ty, pos, after, none⟩ e = true from rfl)]
  rfl
theorem O_off {op : Op} {g t : Nat} {b : Bool} {fl : List Bool} (h : tmpOf ops g = some t) (h1 : e.get t = .bool (!b)) : O P I ops (⟨dst, op, ty, pos, after, some (g, b)⟩ :: r) fl Q e S = O P I ops r fl.tail Q (e.putO dst undef) S := by
  have hw : ¬ wants ops ⟨dst, op, ty, pos, after, some (g, b)⟩ e = true := by
    unfold tmpOf at h
    simp only [wants, h, h1]
    cases b <;> simp
  rw [O]
  rw [if_neg hw]
def gb : Value → Bool → Bool
  | .bool c, b => c == b
  | _, _ => false
theorem gb_bool (c b : Bool) : gb (.bool c) b = (c == b) := rfl
def gt (t : Option Tmp) (b : Bool) (e : Env) : Bool := match t with
  | some t => gb (e.get t) b
  | none => false
theorem gt_some (t : Tmp) (b : Bool) : gt (some t) b e = gb (e.get t) b := rfl
theorem O_guarded {op : Op} {g : Nat} {b : Bool} {fl : List Bool} {l : List Oper} : O P I l.toArray (⟨dst, op, ty, pos, after, some (g, b)⟩ :: r) fl Q e S =
    if gt ((l[g]?).bind (·.dst)) b e = true then O P I l.toArray (⟨dst, op, ty, pos, after, none⟩ :: r) fl Q e S else O P I l.toArray r fl.tail Q (e.putO dst undef) S := by
  have hw : wants l.toArray ⟨dst, op, ty, pos, after, some (g, b)⟩ e = gt ((l[g]?).bind (·.dst)) b e := by
    unfold wants gt
    simp only [List.getElem?_toArray]
    cases (l[g]?).bind (·.dst) with
    | none => rfl
    | some t =>
      show (match e.get t with | .bool c => c == b | _ => false) = gb (e.get t) b
      cases e.get t <;> rfl
  by_cases h : gt ((l[g]?).bind (·.dst)) b e = true
  · rw [if_pos h]
    rw [h] at hw
    unfold O
    rw [if_pos hw, if_pos (show wants l.toArray ⟨dst, op, ty, pos, after, none⟩ e = true from rfl)]
    rfl
  · rw [if_neg h]
    rw [O]
    rw [if_neg (by rw [hw]; exact h)]
theorem Kept.new {S0 S1 S2 : St} {o : Option Nat} (h : Kept S0 S1 none) (k : Kept S1 S2 o) (ho : ∀ j, o = some j → S0.next ≤ j) : Kept S0 S2 none :=
  ⟨Nat.le_trans h.1 k.1, fun i hi _ => (k.2 i (Nat.lt_of_lt_of_le hi h.1) (fun e => by have := ho i e; omega)).trans (h.2 i hi (by simp))⟩
theorem Kept.upd {S0 S1 : St} (h : Kept S0 S1 none) {i : Nat} (hi : S0.next ≤ i) (b : Blk) : Kept S0 (S1.upd i b) none :=
  ⟨h.1, fun j hj _ => (S1.get_upd_ne b (by omega)).trans (h.2 j hj (by simp))⟩
theorem Kept.get {S0 S1 : St} (h : Kept S0 S1 none) {i : Nat} {o : Option Blk} (hi : i < S0.next) (hg : S0.get i = o) : S1.get i = o := (h.2 i hi (by simp)).trans hg
theorem blk_new {S1 : St} {v' : Value} {o : Option Nat} {N : Nat} (hB : blkOf v' = o ∨ ∃ i, S1.next ≤ i ∧ blkOf v' = some i) (hv : ∀ q, o = some q → N ≤ q) (hN : N ≤ S1.next) : ∀ q, blkOf v' = some q → N ≤ q := by
  intro q hq
  rcases hB with h | ⟨i, hi, h⟩
  · exact hv q (h ▸ hq)
  · rw [h] at hq; cases hq; omega
theorem asrc_own_lit {tx t elem size b n c m : Nat} {xs : List Value} (hu : P.underlying tx = some (.slice t)) (hb : S.get b = some ⟨xs, elem, true, m⟩) (hm : m ≤ xs.length) (hl : xs.length = n * size) (h1 : xs.all oneC = true) :
    asrc P S tx size (.slice (some ⟨b, 0, some xs.length⟩) n c) = some (n, xs) := by
  simp only [asrc, hu]
  by_cases hn : n = 0
  · subst hn
    have : xs = [] := by simpa using hl
    subst this
    rfl
  · rw [if_neg hn]
    have : aread S ⟨b, 0, some xs.length⟩ (n * size) = some xs := by
      unfold aread
      simp only [hb]
      rw [if_pos ⟨fun _ => ⟨hm, by simp; omega⟩, by simp; omega⟩, List.drop_zero, ← hl, List.take_length]
    simp only [this, h1, if_true]
theorem withLow_withLow (S : St) (a b : Nat) : (S.withLow a).withLow b = S.withLow b := rfl
theorem withLow_low (S : St) : S.withLow S.low = S := rfl
theorem push_withLow (S : St) (l : Nat) (b : Blk) : (S.withLow l).push b = (S.push b).withLow l := rfl
theorem push_withLow_low (S : St) (b : Blk) : (S.push b).withLow S.low = S.push b := rfl
theorem aload_withLow (S : St) (l t : Nat) (v : Value) : aload P (S.withLow l) t v = aload P S t v := rfl

/-! ## Second rules: operations on memory -/
theorem cells_agg (cs : Array Value) : (Value.agg cs).cells = cs := rfl
theorem cells_int (k : IntKind) (n : Int) : (Value.int k n).cells = #[.int k n] := rfl
theorem cells_bool (b : Bool) : (Value.bool b).cells = #[.bool b] := rfl
theorem cells_string (s : ByteArray) : (Value.string s).cells = #[.string s] := rfl
theorem cells_slice (a : Option Addr) (n c : Nat) : (Value.slice a n c).cells = #[.slice a n c] := rfl
theorem cells_pointer (a : Option Addr) : (Value.pointer a).cells = #[.pointer a] := rfl
theorem cells_iface (t : TypeId) (v : Value) : (Value.iface t v).cells = #[.iface t v] := rfl
theorem cells_nilIface : Value.nilIface.cells = #[.nilIface] := rfl
theorem ptrAt_eq (b L : Nat) : ptrAt b L = .pointer (some ⟨b, 0, some L⟩) := rfl
theorem get_push_self' {S : St} {b : Blk} {i : Nat} (h : i = S.next) : (S.push b).get i = some b := by subst h; exact S.get_push_self b

theorem aload_one {t b o L : Nat} {v : Value} {blk : Blk} (ha : isAgg? P t = some false) (hb : S.get b = some blk) (hk : blk.own = true → blk.min ≤ L ∧ o + 1 ≤ L) (hv : blk.cells[o]? = some v) : aload P S t (.pointer (some ⟨b, o, some L⟩)) = some v := by
  unfold aload
  simp only [ha]
  have hl := (List.getElem?_eq_some_iff.1 hv).1
  have : aread S ⟨b, o, some L⟩ 1 = some [v] := by
    unfold aread
    simp only [hb]
    rw [if_pos ⟨hk, hl⟩]
    congr 1
    rw [List.take_one, List.head?_drop, hv]
    rfl
  simp only [this]
def cellAt : Option Blk → Nat → Nat → Option Value
  | some blk, o, L => if blk.own = true → blk.min ≤ L ∧ o + 1 ≤ L then blk.cells[o]? else none
  | none, _, _ => none
theorem cellAt_own {cs : List Value} {el m o L : Nat} (h : m ≤ L) (h1 : o + 1 ≤ L) : cellAt (some ⟨cs, el, true, m⟩) o L = cs[o]? := by
  show (if true = true → m ≤ L ∧ o + 1 ≤ L then cs[o]? else none) = _
  rw [if_pos fun _ => ⟨h, h1⟩]
theorem cellAt_their {cs : List Value} {el m o L : Nat} : cellAt (some ⟨cs, el, false, m⟩) o L = cs[o]? := by
  show (if false = true → m ≤ L ∧ o + 1 ≤ L then cs[o]? else none) = _
  rw [if_pos fun h => by cases h]
theorem aload_cell {t b o L : Nat} (ha : isAgg? P t = some false) : aload P S t (.pointer (some ⟨b, o, some L⟩)) = cellAt (S.get b) o L := by
  unfold aload
  simp only [ha]
  unfold aread cellAt
  cases hb : S.get b with
  | none => rfl
  | some blk =>
    simp only
    by_cases hk : blk.own = true → blk.min ≤ L ∧ o + 1 ≤ L
    · rw [if_pos hk]
      by_cases hl : o + 1 ≤ blk.cells.length
      · rw [if_pos ⟨hk, hl⟩, List.take_one, List.head?_drop]
        have : blk.cells[o]? = some blk.cells[o] := List.getElem?_eq_getElem (by omega)
        rw [this]
        rfl
      · rw [if_neg (fun q => hl q.2), List.getElem?_eq_none (by omega)]
    · rw [if_neg (fun q => hk q.1), if_neg hk]
def rowAt (b : Option Blk) (o n L : Nat) : Option Value :=
  match b with
  | some blk => if (blk.own = true → blk.min ≤ L ∧ o + n ≤ L) ∧ o + n ≤ blk.cells.length then some (.agg ((blk.cells.drop o).take n).toArray) else none
  | none => none
theorem rowAt_own {cs : List Value} {el m o n L : Nat} (h : m ≤ L) (h1 : o + n ≤ L) (h2 : o + n ≤ cs.length) : rowAt (some ⟨cs, el, true, m⟩) o n L = some (.agg ((cs.drop o).take n).toArray) := by
  simp only [rowAt]
  rw [if_pos ⟨fun _ => ⟨h, h1⟩, h2⟩]
theorem rowAt_their {cs : List Value} {el m o n L : Nat} (h2 : o + n ≤ cs.length) : rowAt (some ⟨cs, el, false, m⟩) o n L = some (.agg ((cs.drop o).take n).toArray) := by
  simp only [rowAt]
  rw [if_pos ⟨fun h => (by cases h), h2⟩]
theorem aload_row {t b o L n : Nat} (ha : isAgg? P t = some true) (hn : asize P t = some n) : aload P S t (.pointer (some ⟨b, o, some L⟩)) = rowAt (S.get b) o n L := by
  unfold aload rowAt
  simp only [ha, hn]
  unfold aread
  cases hb : S.get b with
  | none => rfl
  | some blk =>
    simp only
    split <;> split <;> simp_all
def storeAt (S : St) (b : Nat) (blk : Option Blk) (o L : Nat) (vs : Array Value) : Option St :=
  match blk with
  | some blk => if blk.own = true ∧ L = blk.cells.length ∧ blk.min ≤ L ∧ o + vs.size ≤ L ∧ b < S.next ∧ vs.toList.all oneC = true then
      some (S.upd b { blk with cells := blk.cells.take o ++ vs.toList ++ blk.cells.drop (o + vs.size), min := blk.cells.length }) else none
  | none => none
theorem storeAt_own {cs : List Value} {b el m o L : Nat} {vs : Array Value} (hL : L = cs.length) (h : m ≤ L) (h1 : o + vs.size ≤ L) (h2 : b < S.next) (h3 : vs.toList.all oneC = true) :
    storeAt S b (some ⟨cs, el, true, m⟩) o L vs = some (S.upd b ⟨cs.take o ++ vs.toList ++ cs.drop (o + vs.size), el, true, cs.length⟩) := by
  simp only [storeAt]
  rw [if_pos ⟨trivial, hL, h, h1, h2, h3⟩]
theorem astore_cell {t b o L n : Nat} {v : Value} (hn : asize P t = some n) (hs : n = v.cells.size) : astore P S t (.pointer (some ⟨b, o, some L⟩)) v = storeAt S b (S.get b) o L v.cells := by
  subst hs
  unfold astore
  simp only [hn, if_true]
  unfold awrite storeAt
  cases hb : S.get b with
  | none => rfl
  | some blk => simp
theorem astore_if {t b o L : Nat} {v : Value} : astore P S t (.pointer (some ⟨b, o, some L⟩)) v = if asize P t = some v.cells.size then storeAt S b (S.get b) o L v.cells else none := by
  split
  · rename_i h
    exact astore_cell h rfl
  · rename_i h
    unfold astore
    simp only [if_neg h]
theorem aload_agg {t b o L n : Nat} {blk : Blk} (ha : isAgg? P t = some true) (hn : asize P t = some n) (hb : S.get b = some blk) (hk : blk.own = true → blk.min ≤ L ∧ o + n ≤ L) (hl : o + n ≤ blk.cells.length) :
    aload P S t (.pointer (some ⟨b, o, some L⟩)) = some (.agg ((blk.cells.drop o).take n).toArray) := by
  unfold aload
  simp only [ha, hn]
  have : aread S ⟨b, o, some L⟩ n = some ((blk.cells.drop o).take n) := by
    unfold aread
    simp only [hb]
    rw [if_pos ⟨hk, hl⟩]
  simp only [this]
theorem astore_at {t b o L : Nat} {v : Value} {blk : Blk} (hs : asize P t = some v.cells.size) (hb : S.get b = some blk) (ho : blk.own = true) (hk : blk.min ≤ L) (hL : L = blk.cells.length) (hl : o + v.cells.size ≤ L) (hn : b < S.next) (h1 : v.cells.toList.all oneC = true) :
    astore P S t (.pointer (some ⟨b, o, some L⟩)) v = some (S.upd b { blk with cells := blk.cells.take o ++ v.cells.toList ++ blk.cells.drop (o + v.cells.size), min := blk.cells.length }) := by
  unfold astore
  simp only [hs, if_true]
  unfold awrite
  simp only [hb]
  rw [if_pos ⟨ho, hL, hk, by simpa using hl, hn, h1⟩]
  simp
theorem aindexAddr_slice {t elem size b o L n c : Nat} {k : IntKind} {i : Int} (hu : P.underlying t = some (.slice elem)) (hs : asize P elem = some size) (h0 : 0 ≤ i) (h1 : i < n) :
    aindexAddr P t (.slice (some ⟨b, o, some L⟩) n c) (.int k i) = some (.pointer (some ⟨b, o + i.toNat * size, some L⟩)) := by
  simp only [aindexAddr, hu, hs]
  rw [if_pos ⟨h0, h1⟩]
theorem aindexAddr_array {t elem size b o L n : Nat} {k : IntKind} {i : Int} (hu : P.underlying t = some (.array n elem)) (hs : asize P elem = some size) (h0 : 0 ≤ i) (h1 : i < n) :
    aindexAddr P t (.pointer (some ⟨b, o, some L⟩)) (.int k i) = some (.pointer (some ⟨b, o + i.toNat * size, some L⟩)) := by
  simp only [aindexAddr, hu, hs]
  rw [if_pos ⟨h0, h1⟩]
theorem unk_le (n : Nat) : UNK ≤ UNK + n := Nat.le_add_right _ _
theorem aslice_h {t elem size n : Nat} {a : Addr} {k : IntKind} {j : Int} (hu : P.underlying t = some (.slice elem)) (hs : asize P elem = some size) (h0 : 0 ≤ j) (h1 : j ≤ n) :
    aslice P t (.slice (some a) n (UNK + size)) none (some (.int k j)) none = some (.slice (some a) j.toNat (UNK + size)) := by
  have h2 : j.toNat ≤ n := by omega
  simp [aslice, anat, if_pos h0, hu, hs, unk_le, abounds, h2, asub]
theorem aslice_l {t elem size b o n : Nat} {s : Option Nat} {k : IntKind} {j : Int} (hu : P.underlying t = some (.slice elem)) (hs : asize P elem = some size) (h0 : 0 ≤ j) (h1 : j ≤ n) :
    aslice P t (.slice (some ⟨b, o, s⟩) n (UNK + size)) (some (.int k j)) none none = some (.slice (some ⟨b, o + j.toNat * size, s⟩) (n - j.toNat) (UNK + size)) := by
  have h2 : j.toNat ≤ n := by omega
  simp [aslice, anat, if_pos h0, hu, hs, unk_le, abounds, h2, asub]
theorem aslice_lh {t elem size b o n : Nat} {s : Option Nat} {k k' : IntKind} {i j : Int} (hu : P.underlying t = some (.slice elem)) (hs : asize P elem = some size) (h0 : 0 ≤ i) (h1 : i ≤ j) (h2 : j ≤ n) :
    aslice P t (.slice (some ⟨b, o, s⟩) n (UNK + size)) (some (.int k i)) (some (.int k' j)) none = some (.slice (some ⟨b, o + i.toNat * size, s⟩) (j.toNat - i.toNat) (UNK + size)) := by
  have h3 : j.toNat ≤ n := by omega
  have h4 : i.toNat ≤ j.toNat := by omega
  have h5 : 0 ≤ j := by omega
  simp [aslice, anat, if_pos h0, if_pos h5, hu, hs, unk_le, abounds, h3, h4, asub]
theorem abuiltin_len {t elem n c : Nat} {a : Option Addr} (hu : P.underlying t = some (.slice elem)) : abuiltin P S .len [t] [.slice a n c] = some (goInt n, S) := by
  simp [abuiltin, kSlice, hu]
end
end Go.Proofs.YtdfgdpjlbcnkfaaDoorAbs
namespace Go.Proofs.YtdfgdpjlbcnkfaaDoorAbs
set_option linter.unusedVariables false
set_option linter.unusedSimpArgs false

/-! ## A row that is read whole: its cells -/
def cellsAt (size : Nat) (S : St) : Value → Option (List Value)
  | .slice none 0 0 => some []
  | .slice (some ⟨b, o, some L⟩) n _ => if n = 0 then some [] else
    match aread S ⟨b, o, some L⟩ (n * size) with
    | some cs => if cs.all leaf = true ∧ 0 < size then some cs else none
    | none => none
  | _ => none
theorem rel_aread {P : Program} {ρ : Ren} {S : St} {w : World} (h : Rel P ρ S w) {b o L n : Nat} {loc : Loc} {cs : List Value} (hb : ρ b L = some loc) (hlo : loc.lo ≤ o) (hr : aread S ⟨b, o, some L⟩ n = some cs) :
    cs.length = n ∧ ∀ (j : Nat) (v : Value), cs[j]? = some v → ∃ (A : Nat) (v' : Value), (A : Int) = loc.base + (o + j : Nat) ∧ w.cell? ⟨loc.B, A, none⟩ = some v' ∧ VR ρ v v' := by
  unfold aread at hr
  split at hr
  case h_2 => cases hr
  rename_i L' blk e1 e2
  cases e1
  split at hr
  case isFalse => cases hr
  rename_i hc
  cases hr
  have q := h.blk _ _ _ _ hb e2
  have hc2 : o + n ≤ blk.cells.length := hc.2
  refine ⟨by simp; omega, fun j v hj => ?_⟩
  rw [List.getElem?_take] at hj
  split at hj
  case isFalse => cases hj
  rename_i hjn
  rw [List.getElem?_drop] at hj
  have ho := q.own
  exact q.cells (fun k => (hc.1 (ho.trans k)).1) (o + j) v (by omega) (fun k => by have := (hc.1 (ho.trans k)).2; simp only at this; omega) hj
theorem cellsAt_sim {P : Program} {ρ : Ren} {S : St} {w : World} {size : Nat} {v v' : Value} {cs : List Value} (h : Rel P ρ S w) (hv : VR ρ v v') (hc : cellsAt size S v = some cs) :
    ∃ A n C, v' = .slice A n C ∧ n ≤ C ∧ cs.length = n * size ∧ (∀ (j : Nat) (u : Value), cs[j]? = some u → ∃ ad, A = some ad ∧ w.cell? (ad.add j) = some u) ∧ ∃ a c, v = .slice a n c := by
  unfold cellsAt at hc
  split at hc
  · cases hc
    obtain rfl := hv.leaf_eq rfl
    exact ⟨none, 0, 0, rfl, Nat.le_refl _, by simp, fun j u hj => by simp at hj, _, _, rfl⟩
  · rename_i b o L n c
    split at hc
    · rename_i hn
      subst hn
      cases hc
      rcases hv.sl_inv with ⟨L', loc, A, C, _, _, _, _, _, k, _, rfl⟩ | ⟨L', A, C, _, _, _, rfl⟩
      · exact ⟨_, 0, C, rfl, k, by simp, fun j u hj => by simp at hj, _, _, rfl⟩
      · exact ⟨_, 0, C, rfl, Nat.zero_le _, by simp, fun j u hj => by simp at hj, _, _, rfl⟩
    · rename_i hn
      split at hc
      case h_2 => cases hc
      rename_i cs' hr
      split at hc
      case isFalse => cases hc
      rename_i hl
      cases hc
      rcases hv.sl_inv with ⟨L', loc, A, C, e, k1, k2, k3, _, k4, _, rfl⟩ | ⟨_, _, _, _, e, _⟩
      · cases e
        obtain ⟨h1, h2⟩ := rel_aread h k1 k2 hr
        refine ⟨_, n, C, rfl, k4, h1, fun j u hj => ⟨_, rfl, ?_⟩, _, _, rfl⟩
        obtain ⟨A', u', e1, e2, e3⟩ := h2 j u hj
        have hlu : leaf u = true := by
          have := hl.1
          rw [List.all_eq_true] at this
          exact this u (List.mem_of_getElem? hj)
        obtain rfl := e3.leaf_eq hlu
        have ea : Addr.add ⟨loc.B, A, none⟩ j = ⟨loc.B, A', none⟩ := by
          have : A' = A + j := by omega
          subst this
          unfold Addr.add
          split <;> simp_all
        rw [ea]; exact e2
      · omega
  · cases hc
theorem cellsAt_own {elem size n : Nat} {S : St} {v : Value} {xs : List Value} (h : Own elem size S v n xs) (hl : xs.all leaf = true) (hs : 0 < size) : cellsAt size S v = some xs := by
  obtain ⟨h0, h1, h2⟩ := h
  rcases h2 with ⟨rfl, rfl⟩ | ⟨b, m, rfl, h2, h3, h4, h5⟩
  · have : xs = [] := by simpa using h0
    subst this
    rfl
  · simp only [cellsAt]
    rw [if_neg (by omega)]
    have : aread S ⟨b, 0, some xs.length⟩ (n * size) = some xs := by
      unfold aread
      simp only [h2]
      rw [if_pos ⟨fun _ => ⟨h3, by simp; omega⟩, by simp; omega⟩, List.drop_zero, ← h0, List.take_length]
    simp only [this, hl, hs, and_self, if_true]
/-- The first cell of a global. -/
theorem rel_glob {P : Program} {ρ : Ren} {S : St} {w : World} (h : Rel P ρ S w) {g : Nat} {blk : Blk} {u : Value} (hg : g ≤ P.globals.size) (hb : S.get g = some blk) (hu : blk.cells[0]? = some u) : ∃ u', w.cell? ⟨g, 0, none⟩ = some u' ∧ VR ρ u u' := by
  have q := h.blk _ _ _ _ (h.glob g hg) hb
  obtain ⟨A, u', e1, e2, e3⟩ := q.cells (fun h => by cases h) 0 u (Nat.le_refl _) (fun h => by cases h) hu
  have : A = 0 := by simpa using e1
  subst this
  exact ⟨u', e2, e3⟩
end Go.Proofs.YtdfgdpjlbcnkfaaDoorAbs
namespace Go.Proofs.YtdfgdpjlbcnkfaaDoorAbs
set_option linter.unusedVariables false
set_option linter.unusedSimpArgs false
section
variable {P : Program}
theorem binX_shl (t : TypeId) (x y : Operand) (k k' : IntKind) (a b : Int) (h : 0 ≤ b) : binX P .shl t x y (.int k a) (.int k' b) = some (.int k (k.wrap (a * 2 ^ (min b.toNat k.bits)))) := by
  have h' : ¬ b < 0 := by omega
  simp [binX, abinOp, scalar, leaf, eqGuard, binOp, Op.shift, h', pureRun, Bind.bind, Sem.bind, pure]
theorem binX_shr (t : TypeId) (x y : Operand) (k k' : IntKind) (a b : Int) (h : 0 ≤ b) : binX P .shr t x y (.int k a) (.int k' b) = some (.int k (a.fdiv (2 ^ (min b.toNat k.bits)))) := by
  have h' : ¬ b < 0 := by omega
  simp [binX, abinOp, scalar, leaf, eqGuard, binOp, Op.shift, h', pureRun, Bind.bind, Sem.bind, pure]
theorem binX_or (t : TypeId) (x y : Operand) (k : IntKind) (a b : Int) : binX P .or t x y (.int k a) (.int k b) = some (.int k (k.wrap (BitVec.ofInt k.bits a ||| BitVec.ofInt k.bits b).toNat)) := by
  simp [binX, abinOp, scalar, leaf, eqGuard, binOp, Op.intBits, pureRun, Bind.bind, Sem.bind, pure]
theorem binX_and (t : TypeId) (x y : Operand) (k : IntKind) (a b : Int) : binX P .and t x y (.int k a) (.int k b) = some (.int k (k.wrap (BitVec.ofInt k.bits a &&& BitVec.ofInt k.bits b).toNat)) := by
  simp [binX, abinOp, scalar, leaf, eqGuard, binOp, Op.intBits, pureRun, Bind.bind, Sem.bind, pure]
theorem binX_xor (t : TypeId) (x y : Operand) (k : IntKind) (a b : Int) : binX P .xor t x y (.int k a) (.int k b) = some (.int k (k.wrap (BitVec.ofInt k.bits a ^^^ BitVec.ofInt k.bits b).toNat)) := by
  simp [binX, abinOp, scalar, leaf, eqGuard, binOp, Op.intBits, pureRun, Bind.bind, Sem.bind, pure]
theorem binX_andNot (t : TypeId) (x y : Operand) (k : IntKind) (a b : Int) : binX P .andNot t x y (.int k a) (.int k b) = some (.int k (k.wrap (BitVec.ofInt k.bits a &&& ~~~BitVec.ofInt k.bits b).toNat)) := by
  simp [binX, abinOp, scalar, leaf, eqGuard, binOp, Op.intBits, pureRun, Bind.bind, Sem.bind, pure]
theorem binX_ptr_ne (t : TypeId) (x y : Operand) {e : TypeId} (h : P.underlying t = some (.pointer e)) (a : Addr) : binX P .neq t x y (.pointer (some a)) (.pointer none) = some (.bool true) := by simp [binX, abinOp, anil, kPtr, h]
theorem binX_ptr_eq (t : TypeId) (x y : Operand) {e : TypeId} (h : P.underlying t = some (.pointer e)) (a : Addr) : binX P .eql t x y (.pointer (some a)) (.pointer none) = some (.bool false) := by simp [binX, abinOp, anil, kPtr, h]
theorem binX_if_ne (t : TypeId) (x y : Operand) (h : kIface P t = true) (u : TypeId) (v : Value) : binX P .neq t x y (.iface u v) .nilIface = some (.bool true) := by simp [binX, abinOp, anil, h]
theorem binX_if_eq (t : TypeId) (x y : Operand) (h : kIface P t = true) (u : TypeId) (v : Value) : binX P .eql t x y (.iface u v) .nilIface = some (.bool false) := by simp [binX, abinOp, anil, h]
theorem binX_sl_ne (t : TypeId) (x y : Operand) {e : TypeId} (h : P.underlying t = some (.slice e)) (a : Addr) (n c : Nat) (hn : 0 < n) : binX P .neq t x y (.slice (some a) n c) (.slice none 0 0) = some (.bool true) := by simp [binX, abinOp, anil, kSlice, h, hn]
theorem binX_sl_eq (t : TypeId) (x y : Operand) {e : TypeId} (h : P.underlying t = some (.slice e)) (a : Addr) (n c : Nat) (hn : 0 < n) : binX P .eql t x y (.slice (some a) n c) (.slice none 0 0) = some (.bool false) := by simp [binX, abinOp, anil, kSlice, h, hn]
theorem gb_undef (b : Bool) : gb undef b = false := rfl
end
end Go.Proofs.YtdfgdpjlbcnkfaaDoorAbs
set_option linter.unusedVariables false
set_option linter.unusedSimpArgs false
set_option linter.defProp false
namespace Go.Proofs.YtdfgdpjlbcnkfaaDoorAbs
set_option linter.unusedVariables false
set_option linter.unusedSimpArgs false
/-! ## Steps as rules that go backward, and the rules in bundles -/
section
variable {P : Program} {I : Prims} {ops : Array Oper} {e : Env} {S : St} {Q : AExit → Env → St → Prop} {n : Env → St → Prop}
theorem W_skipI (h : Q .normal e S) : W P I .skip Q e S := h
theorem W_retI (h : Q .ret e S) : W P I .ret Q e S := h
theorem W_exitI {id : Nat} (h : Q (.exit id) e S) : W P I (.exit id) Q e S := h
theorem W_labelI {l : Nat} (h : Q .normal e S) : W P I (.label l) Q e S := h
theorem W_scopeI {c : Code} (h : W P I c Q e S) : W P I (.scope c) Q e S := h
theorem W_blockI {id : Nat} {c : Code} (h : W P I c (inBlock_ id Q) e S) : W P I (.block id c) Q e S := h
theorem W_regionI {id : Nat} {l : List Oper} (h : O P I l.toArray l [] (Q .normal) e S) : W P I (.region id l.toArray false) Q e S := h
theorem then_normalI (h : n e S) : then_ n Q .normal e S := h
theorem then_retI (h : Q .ret e S) : then_ n Q .ret e S := h
theorem then_exitI {id : Nat} (h : Q (.exit id) e S) : then_ n Q (.exit id) e S := h
theorem inBlock_normalI {id : Nat} (h : Q .normal e S) : inBlock_ id Q .normal e S := h
theorem inBlock_retI {id : Nat} (h : Q .ret e S) : inBlock_ id Q .ret e S := h
theorem inBlock_exitI {id : Nat} (h : Q .normal e S) : inBlock_ id Q (.exit id) e S := by rw [inBlock_exit, if_pos rfl]; exact h
theorem inBlock_exitN {id id' : Nat} (k : id' ≠ id) (h : Q (.exit id') e S) : inBlock_ id Q (.exit id') e S := by rw [inBlock_exit, if_neg k]; exact h
theorem bodyQ_normalI {rs : List ResultVar} {R : Value → St → Prop} {vs : List Value} (k : aresL P S e rs = some vs) (h : R (pack vs) S) : bodyQ P rs R .normal e S := ⟨vs, k, h⟩
theorem bodyQ_retI {rs : List ResultVar} {R : Value → St → Prop} {vs : List Value} (k : aresL P S e rs = some vs) (h : R (pack vs) S) : bodyQ P rs R .ret e S := ⟨vs, k, h⟩
theorem W_condI {c : Operand} {x y : Code} {t : Bool} (h : e.ev c = .bool t) (h1 : t = true → W P I x Q e S) (h2 : t = false → W P I y Q e S) : W P I (.cond c x y) Q e S := W_cond h h1 h2
/-- A guard on a test that is not decided: both ways. -/
theorem O_split {op : Op} {g : Nat} {b t : Bool} {fl : List Bool} {l r : List Oper} {dst : Option Tmp} {ty : TypeId} {pos : String} {after : Array Edge} {R : Env → St → Prop} (h : gt ((l[g]?).bind (·.dst)) b e = t) (h1 : t = true → O P I l.toArray (⟨dst, op, ty, pos, after, none⟩ :: r) fl R e S) (h2 : t = false → O P I l.toArray r fl.tail R (e.putO dst undef) S) :
    O P I l.toArray (⟨dst, op, ty, pos, after, some (g, b)⟩ :: r) fl R e S := by
  rw [O_guarded]
  cases t with
  | true => rw [if_pos h]; exact h1 rfl
  | false => rw [if_neg (by rw [h]; decide)]; exact h2 rfl
end
end Go.Proofs.YtdfgdpjlbcnkfaaDoorAbs
namespace Go.Proofs.YtdfgdpjlbcnkfaaDoorAbs
theorem iteI {c : Prop} [Decidable c] {a b : Prop} (h1 : c → a) (h2 : ¬ c → b) : if c then a else b := by
  by_cases h : c
  · rw [if_pos h]; exact h1 h
  · rw [if_neg h]; exact h2 h
end Go.Proofs.YtdfgdpjlbcnkfaaDoorAbs
namespace Go.Proofs.YtdfgdpjlbcnkfaaDoorAbs
theorem iteB {B : Bool} {a b : Prop} (h1 : B = true → a) (h2 : B = false → b) : if B = true then a else b := by
  cases B with
  | true => rw [if_pos rfl]; exact h1 rfl
  | false => rw [if_neg (by decide)]; exact h2 rfl
end Go.Proofs.YtdfgdpjlbcnkfaaDoorAbs
namespace Go.Proofs.YtdfgdpjlbcnkfaaDoorAbs
/-- A test whose two ways stay folded. -/
def gIf (c : Bool) (a b : Prop) : Prop := if c = true then a else b
@[congr] theorem gIf_congr {c c' : Bool} {a b : Prop} (h : c = c') : gIf c a b = gIf c' a b := by rw [h]
theorem gIf_t {a b : Prop} : gIf true a b = a := by unfold gIf; rw [if_pos rfl]
theorem gIf_f {a b : Prop} : gIf false a b = b := by unfold gIf; rw [if_neg (by decide)]
theorem gIfI {c : Bool} {a b : Prop} (h1 : c = true → a) (h2 : c = false → b) : gIf c a b := iteB h1 h2
theorem O_gd {P : Program} {I : Prims} {r : List Oper} {Q : Env → St → Prop} {e : Env} {S : St} {dst : Option Tmp} {ty : TypeId} {pos : String} {after : Array Edge} {op : Op} {g : Nat} {b : Bool} {fl : List Bool} {l : List Oper} :
    O P I l.toArray (⟨dst, op, ty, pos, after, some (g, b)⟩ :: r) fl Q e S = gIf (gt ((l[g]?).bind (·.dst)) b e) (O P I l.toArray (⟨dst, op, ty, pos, after, none⟩ :: r) fl Q e S) (O P I l.toArray r fl.tail Q (e.putO dst undef) S) := O_guarded
end Go.Proofs.YtdfgdpjlbcnkfaaDoorAbs
namespace Go.Proofs.YtdfgdpjlbcnkfaaDoorAbs
/-- What comes behind, folded. -/
def Cont (K N : AExit → Env → St → Prop) : Prop := ∀ x e S, N x e S → K x e S
theorem Cont.use {K N : AExit → Env → St → Prop} {x : AExit} {e : Env} {S : St} (h : Cont K N) (k : N x e S) : K x e S := h x e S k
theorem W_pushC {P : Program} {I : Prims} {a b : Code} {Q : AExit → Env → St → Prop} {e : Env} {S : St} (h : ∀ K : AExit → Env → St → Prop, Cont K (then_ (W P I b Q) Q) → W P I a K e S) : W P I (.seq a b) Q e S := h _ fun _ _ _ h => h
end Go.Proofs.YtdfgdpjlbcnkfaaDoorAbs
namespace Go.Proofs.YtdfgdpjlbcnkfaaDoorAbs
section
variable {P : Program} {e : Env} {S : St} {R : Value → St → Prop}
theorem bodyQ_normal0 (h : R (.tuple #[]) S) : bodyQ P [] R .normal e S := ⟨_, rfl, h⟩
theorem bodyQ_normal1 {t0 : Nat} (h : R (e.get t0) S) : bodyQ P [.tmp t0] R .normal e S := ⟨_, rfl, h⟩
theorem bodyQ_normal2 {t0 t1 : Nat} (h : R (.tuple #[e.get t0, e.get t1]) S) : bodyQ P [.tmp t0, .tmp t1] R .normal e S := ⟨_, rfl, h⟩
theorem bodyQ_normal3 {t0 t1 t2 : Nat} (h : R (.tuple #[e.get t0, e.get t1, e.get t2]) S) : bodyQ P [.tmp t0, .tmp t1, .tmp t2] R .normal e S := ⟨_, rfl, h⟩
theorem bodyQ_normal4 {t0 t1 t2 t3 : Nat} (h : R (.tuple #[e.get t0, e.get t1, e.get t2, e.get t3]) S) : bodyQ P [.tmp t0, .tmp t1, .tmp t2, .tmp t3] R .normal e S := ⟨_, rfl, h⟩
theorem bodyQ_ret0 (h : R (.tuple #[]) S) : bodyQ P [] R .ret e S := ⟨_, rfl, h⟩
theorem bodyQ_ret1 {t0 : Nat} (h : R (e.get t0) S) : bodyQ P [.tmp t0] R .ret e S := ⟨_, rfl, h⟩
theorem bodyQ_ret2 {t0 t1 : Nat} (h : R (.tuple #[e.get t0, e.get t1]) S) : bodyQ P [.tmp t0, .tmp t1] R .ret e S := ⟨_, rfl, h⟩
theorem bodyQ_ret3 {t0 t1 t2 : Nat} (h : R (.tuple #[e.get t0, e.get t1, e.get t2]) S) : bodyQ P [.tmp t0, .tmp t1, .tmp t2] R .ret e S := ⟨_, rfl, h⟩
theorem bodyQ_ret4 {t0 t1 t2 t3 : Nat} (h : R (.tuple #[e.get t0, e.get t1, e.get t2, e.get t3]) S) : bodyQ P [.tmp t0, .tmp t1, .tmp t2, .tmp t3] R .ret e S := ⟨_, rfl, h⟩
end
end Go.Proofs.YtdfgdpjlbcnkfaaDoorAbs
namespace Go.Proofs.YtdfgdpjlbcnkfaaDoorAbs
section
variable {P : Program} {I : Prims} {ops : Array Oper} {r : List Oper} {Q : Env → St → Prop} {e : Env} {S : St} {dst : Option Tmp} {ty : TypeId} {pos : String} {after : Array Edge} {fl : List Bool}
/-- What comes behind a call that others may pass. -/
def OKT (P : Program) (I : Prims) (ops : Array Oper) (r : List Oper) (fl : List Bool) (Q : Env → St → Prop) (dst : Option Tmp) (e : Env) (n l : Nat) : Value → St → Prop := fun v S' => n ≤ S'.low ∧ O P I ops r fl Q (e.putO dst v) (S'.withLow l)
theorem OKT_ap {v : Value} {S' : St} {n l : Nat} : OKT P I ops r fl Q dst e n l v S' = (n ≤ S'.low ∧ O P I ops r fl Q (e.putO dst v) (S'.withLow l)) := rfl
theorem O_callT {f : Operand} {args : Array Operand} {ts : Array TypeId} : O P I ops (⟨dst, .call ⟨.value f, args, ts⟩, ty, pos, after, none⟩ :: r) (true :: fl) Q e S =
    ((acallee (e.ev f) (args.map e.ev)).isSome = true ∧ callable P (callF (e.ev f) (args.map e.ev)) = true ∧ C P I (callF (e.ev f) (args.map e.ev)) (callX (e.ev f) (args.map e.ev)) (S.withLow S.next) (OKT P I ops r fl Q dst e S.next S.low)) := by
  rw [O]
  simp only [wants, if_true, List.headD_cons, List.tail_cons, callF, callX]
  refine propext ⟨?_, ?_⟩
  · rintro ⟨g, xs, h1, h2, h3⟩
    rw [h1]
    exact ⟨rfl, h2, h3⟩
  · rintro ⟨h1, h2, h3⟩
    obtain ⟨q, hq⟩ := Option.isSome_iff_exists.1 h1
    rw [hq] at h2 h3
    exact ⟨q.1, q.2, hq, h2, h3⟩
end
end Go.Proofs.YtdfgdpjlbcnkfaaDoorAbs
namespace Go.Proofs.YtdfgdpjlbcnkfaaDoorAbs
section
variable {P : Program} {S : St} {dst : Option Tmp} {ty : TypeId} {pos : String} {after : Array Edge} {ev : Operand → Value}
def minX : Value → Value → Option Value
  | .int k a, .int k' b => if k = k' then some (.int k (if b < a then b else a)) else none
  | _, _ => none
def maxX : Value → Value → Option Value
  | .int k a, .int k' b => if k = k' then some (.int k (if a < b then b else a)) else none
  | _, _ => none
def lenX (P : Program) (t : TypeId) : Value → Option Value
  | .string s => match P.underlying t with
    | some .string => some (goInt s.size)
    | _ => none
  | _ => none
theorem minX_int (k : IntKind) (a b : Int) : minX (.int k a) (.int k b) = some (.int k (if b < a then b else a)) := by simp [minX]
theorem maxX_int (k : IntKind) (a b : Int) : maxX (.int k a) (.int k b) = some (.int k (if a < b then b else a)) := by simp [maxX]
theorem lenX_str (t : TypeId) (s : ByteArray) (h : P.underlying t = some .string) : lenX P t (.string s) = some (goInt s.size) := by simp [lenX, h]
def asc0 (P : Program) (ev : Operand → Value) (o : Oper) (S : St) : Option (Value × St) := ascalar P ev o S
theorem asc_min (x y : Operand) (ts : Array TypeId) : ascalar P ev ⟨dst, .call ⟨.builtin .min, #[x, y], ts⟩, ty, pos, after, none⟩ S = alt (lift S (minX (ev x) (ev y))) (asc0 P ev ⟨dst, .call ⟨.builtin .min, #[x, y], ts⟩, ty, pos, after, none⟩ S) := by
  cases hm : minX (ev x) (ev y) with
  | none => rfl
  | some v =>
    unfold minX at hm
    split at hm
    case h_2 => cases hm
    rename_i k a k' b hx hy
    split at hm
    case isFalse => cases hm
    rename_i hk
    subst hk
    cases hm
    simp [ascalar, Op.operands, Call.operands, hx, hy, scalar, leaf, isSelect, execOp, resolve, invoke, builtin, Builtin.min_, Builtin.min2, pureRun_bind, pureRun_pure, lift, alt, Bind.bind, Sem.bind, pure, pureRun]
theorem asc_max (x y : Operand) (ts : Array TypeId) : ascalar P ev ⟨dst, .call ⟨.builtin .max, #[x, y], ts⟩, ty, pos, after, none⟩ S = alt (lift S (maxX (ev x) (ev y))) (asc0 P ev ⟨dst, .call ⟨.builtin .max, #[x, y], ts⟩, ty, pos, after, none⟩ S) := by
  cases hm : maxX (ev x) (ev y) with
  | none => rfl
  | some v =>
    unfold maxX at hm
    split at hm
    case h_2 => cases hm
    rename_i k a k' b hx hy
    split at hm
    case isFalse => cases hm
    rename_i hk
    subst hk
    cases hm
    simp [ascalar, Op.operands, Call.operands, hx, hy, scalar, leaf, isSelect, execOp, resolve, invoke, builtin, Builtin.max_, Builtin.max2, pureRun_bind, pureRun_pure, lift, alt, Bind.bind, Sem.bind, pure, pureRun]
theorem asc_len (x : Operand) (t : TypeId) : ascalar P ev ⟨dst, .call ⟨.builtin .len, #[x], #[t]⟩, ty, pos, after, none⟩ S = alt (lift S (lenX P t (ev x))) (asc0 P ev ⟨dst, .call ⟨.builtin .len, #[x], #[t]⟩, ty, pos, after, none⟩ S) := by
  cases hm : lenX P t (ev x) with
  | none => rfl
  | some v =>
    unfold lenX at hm
    split at hm
    case h_2 => cases hm
    rename_i s hx
    split at hm
    case h_2 => cases hm
    rename_i hu
    cases hm
    simp [ascalar, Op.operands, Call.operands, hx, scalar, leaf, isSelect, execOp, resolve, invoke, builtin, Builtin.len_, underlying, program, hu, goInt, pureRun_bind, pureRun_pure, lift, alt, Bind.bind, Sem.bind, pure, pureRun]
theorem abuiltin_min (ts : List TypeId) (xs : List Value) : abuiltin P S .min ts xs = none := by unfold abuiltin; split <;> first | rfl | simp_all
theorem abuiltin_max (ts : List TypeId) (xs : List Value) : abuiltin P S .max ts xs = none := by unfold abuiltin; split <;> first | rfl | simp_all
theorem abuiltin_lenS (t : TypeId) (s : ByteArray) : abuiltin P S .len [t] [.string s] = none := by simp [abuiltin]
end
end Go.Proofs.YtdfgdpjlbcnkfaaDoorAbs
namespace Go.Proofs.YtdfgdpjlbcnkfaaDoorAbs
section
variable {P : Program} {I : Prims} {r : List Oper} {Q : Env → St → Prop} {e : Env} {S : St} {dst : Option Tmp} {ty : TypeId} {pos : String} {after : Array Edge} {op : Op} {g : Nat} {b : Bool} {fl : List Bool} {l : List Oper}
theorem O_gdT (h : gt ((l[g]?).bind (·.dst)) b e = true) : O P I l.toArray (⟨dst, op, ty, pos, after, some (g, b)⟩ :: r) fl Q e S = O P I l.toArray (⟨dst, op, ty, pos, after, none⟩ :: r) fl Q e S := by rw [O_guarded, if_pos h]
theorem O_gdF (h : gt ((l[g]?).bind (·.dst)) b e = false) : O P I l.toArray (⟨dst, op, ty, pos, after, some (g, b)⟩ :: r) fl Q e S = O P I l.toArray r fl.tail Q (e.putO dst undef) S := by rw [O_guarded, if_neg (by rw [h]; decide)]
end
set_option linter.defProp false
def DN := And.intro @O_nil (And.intro @O_go (And.intro @O_call (And.intro @O_end (And.intro @O_goF (And.intro @O_pure (And.intro @O_goT (And.intro @O_callF (And.intro @O_callT (And.intro @O_gdT @O_gdF)))))))))
set_option linter.defProp false
def UP := And.intro @minX_int (And.intro @maxX_int (And.intro @lenX_str (And.intro @asc_min (And.intro @asc_max (And.intro @asc_len (And.intro @abuiltin_min (And.intro @abuiltin_max (And.intro @abuiltin_lenS (And.intro @OKT_ap (And.intro @gIf_t (And.intro @gIf_f (And.intro @ev_tmp (And.intro @ev_const (And.intro @ev_global (And.intro @ev_func (And.intro @putO_some (And.intro @putO_none (And.intro @get_put (And.intro @get_args (And.intro @okO_some (And.intro @vO_some (And.intro @sO_some (And.intro @callF_func (And.intro @callX_func (And.intro @acallee_func (And.intro @lift_some (And.intro @lift_none (And.intro @liftS_some (And.intro @liftS_none (And.intro @alt_some (And.intro @alt_none (And.intro @nilX_some (And.intro @extX_tuple (And.intro @aop_move (And.intro @aop_assign (And.intro @aop_binOp (And.intro @aop_unOp (And.intro @aop_pick (And.intro @aop_alloc (And.intro @aop_box (And.intro @aop_build (And.intro @aop_buildSlice (And.intro @aop_load (And.intro @aop_store (And.intro @aop_nilCheck (And.intro @aop_makeInterface (And.intro @aop_makeFunc (And.intro @aop_makeSlice (And.intro @aop_fieldAddr (And.intro @aop_field (And.intro @aop_indexAddr (And.intro @aop_extract (And.intro @aop_slice (And.intro @aop_index (And.intro @aop_convert (And.intro @aop_builtin (And.intro @aop_typeAssert (And.intro @binX_add (And.intro @binX_sub (And.intro @binX_mul (And.intro @binX_lss (And.intro @binX_leq (And.intro @binX_gtr (And.intro @binX_geq (And.intro @binX_eql (And.intro @binX_neq (And.intro @binX_quo (And.intro @binX_rem (And.intro @binX_sadd (And.intro @binX_seql (And.intro @binX_sneq (And.intro @unX_not (And.intro @unX_neg (And.intro @pkX_and (And.intro @pkX_or (And.intro @ssX_lh (And.intro @ssX_l (And.intro @ssX_h (And.intro @aslice_string (And.intro @aindex_string (And.intro @ixX_string (And.intro @aconvert_int (And.intro @cvX_int (And.intro @List.size_toArray.{0} (And.intro @List.length_cons.{0} (And.intro @List.length_nil.{0} (And.intro @List.getElem?_cons_zero.{0} (And.intro @List.getElem?_cons_succ.{0} (And.intro @Option.getD_some.{0} (And.intro @Option.getD_none.{0} (And.intro @List.toList_toArray.{0} (And.intro @Option.map_some.{0,0} (And.intro @Option.map_none.{0,0} (And.intro @true_and (And.intro @and_true (And.intro @List.getElem?_nil.{0} (And.intro @ne_eq.{1} (And.intro @not_false_eq_true (And.intro @List.map_toArray.{0,0} (And.intro @List.map_cons.{0,0} (And.intro @List.map_nil.{0,0} (And.intro @Option.isSome_some.{0} (And.intro @Array.toList_append.{0} (And.intro @List.append_toArray.{0} (And.intro @List.nil_append.{0} (And.intro @List.cons_append.{0} (And.intro @List.append_nil.{0} (And.intro @Option.bind_some.{0,0} (And.intro @List.tail_nil.{0} (And.intro @List.tail_cons.{0} (And.intro @eq_self.{1} (And.intro @Bool.false_eq_true (And.intro @Bool.true_eq_false (And.intro @Bool.true_and (And.intro @Bool.and_true (And.intro @Bool.true_or (And.intro @Bool.or_true (And.intro @beq_true (And.intro @beq_false (And.intro @Bool.not_true (And.intro @Bool.not_false (And.intro @Bool.or_false (And.intro @Nat.le_refl (And.intro @pkX_t (And.intro @pkX_f (And.intro @gt_some (And.intro @gb_bool (And.intro @gb_undef (And.intro @withLow_withLow (And.intro @withLow_low (And.intro @push_withLow (And.intro @push_withLow_low (And.intro @aload_withLow (And.intro @St.low_withLow (And.intro @St.next_withLow (And.intro @St.get_withLow (And.intro @St.low_push (And.intro @cells_agg (And.intro @cells_int (And.intro @cells_bool (And.intro @cells_string (And.intro @cells_slice (And.intro @cells_pointer (And.intro @cells_iface (And.intro @cells_nilIface (And.intro @ptrAt_eq (And.intro @St.get_push_ne (And.intro @St.get_push_self (And.intro @St.next_push (And.intro @St.next_upd (And.intro @St.get_upd_self (And.intro @St.get_upd_ne (And.intro @upd_upd (And.intro @aload_cell (And.intro @aload_row (And.intro @astore_if (And.intro @cellAt_own (And.intro @cellAt_their (And.intro @rowAt_own (And.intro @rowAt_their (And.intro @storeAt_own (And.intro @List.take_succ_cons.{0} (And.intro @List.drop_succ_cons.{0} (And.intro @Int.toNat_zero (And.intro @Int.toNat_one (And.intro @Nat.zero_mul (And.intro @Nat.one_mul (And.intro @Nat.mul_one (And.intro @Nat.zero_add (And.intro @Nat.add_zero (And.intro @List.take_zero.{0} (And.intro @List.drop_zero.{0} (And.intro @aindexAddr_slice (And.intro @aindexAddr_array (And.intro @aslice_h (And.intro @aslice_l (And.intro @aslice_lh (And.intro @abuiltin_len (And.intro @List.getElem?_toArray.{0} (And.intro @OKF_ap (And.intro @OK_ap (And.intro @binX_shl (And.intro @binX_shr (And.intro @binX_or (And.intro @binX_and (And.intro @binX_xor (And.intro @binX_ptr_ne (And.intro @binX_ptr_eq (And.intro @binX_if_ne (And.intro @binX_if_eq (And.intro @binX_sl_ne (@binX_sl_eq))))))))))))))))))))))))))))))))))))))))))))))))))))))))))))))))))))))))))))))))))))))))))))))))))))))))))))))))))))))))))))))))))))))))))))))))))))))))))))))))))))))))))))))))))))))))))))))))
def EVB := And.intro @ev_tmp (And.intro @ev_const (And.intro @get_put (And.intro @get_args (And.intro @List.getElem?_cons_zero.{0} (And.intro @List.getElem?_cons_succ.{0} (And.intro @List.getElem?_nil.{0} (And.intro @Option.getD_some.{0} (And.intro @Option.getD_none.{0} (And.intro @OKF_ap (And.intro @OK_ap (And.intro @putO_some (And.intro @putO_none (@blkOf_nil)))))))))))))
def HTN := And.intro @decide_eq_true_eq (And.intro @decide_eq_false_iff_not (And.intro @Bool.not_eq_true' (And.intro @Bool.not_eq_false' (And.intro @Bool.and_eq_true (And.intro @Bool.or_eq_true (And.intro @Bool.and_eq_false_iff (And.intro @Bool.or_eq_false_iff (And.intro @not_true_eq_false (And.intro @not_false_eq_true (And.intro @Bool.false_eq_true (And.intro @Bool.true_eq_false (And.intro @false_or (And.intro @or_false (And.intro @true_and (And.intro @and_true (And.intro @false_and (And.intro @and_false (And.intro @true_or @or_true))))))))))))))))))
end Go.Proofs.YtdfgdpjlbcnkfaaDoorAbs
namespace Go.Proofs.YtdfgdpjlbcnkfaaDoorAbs
theorem qq {Q : Value → St → Prop} {v v' : Value} {S S' : St} (h : Q v S) (e : v = v') (e2 : S = S') : Q v' S' := by subst e; subst e2; exact h
theorem wp8 {n : Int} (h : 0 ≤ n) (h1 : n < 256) : IntKind.u8.wrap n = n := by simp [IntKind.wrap, IntKind.bits, IntKind.signed]; omega
theorem wp64 {n : Int} (h : -9223372036854775808 ≤ n) (h1 : n ≤ 9223372036854775807) : IntKind.i64.wrap n = n := by simp [IntKind.wrap, IntKind.bits, IntKind.signed]; omega
theorem wpu64 {n : Int} (h : 0 ≤ n) (h1 : n < 18446744073709551616) : IntKind.u64.wrap n = n := by simp [IntKind.wrap, IntKind.bits, IntKind.signed]; omega
end Go.Proofs.YtdfgdpjlbcnkfaaDoorAbs
set_option linter.unusedVariables false
set_option linter.unusedSimpArgs false
namespace Go.Proofs.YtdfgdpjlbcnkfaaDoorAbs
set_option linter.unusedVariables false
set_option linter.unusedSimpArgs false
/-- A concrete call, reckoned from the beginning: it answers so wherever its tables stand. -/
theorem calls_of_run {P : Program} {I : Prims} (hI : PrimSim P I) (hm : P.follows .mixedOrders = true) {f k : Nat} {gl : Nat → Option (List Value)} {u : Value} {S1 : St} (hs : scalar u = true) (hk : acall P I k f #[] (St.start P.globals.size gl) = some (u, S1))
    {ρ : Ren} {S : St} {w : World} (hrel : Rel P ρ S w) (hg : ∀ g cs, g ≤ P.globals.size → gl g = some cs → cs.all leaf = true ∧ ∃ el m, S.get g = some ⟨cs, el, false, m⟩) : Calls P f #[] w fun e w' => e = .returned u ∧ RowKit.Below w.heap.size w w' := by
  have st0 : Start P (Ren.start P.globals.size) (St.start P.globals.size gl) w := by
    refine start0 gl (hrel.loc _ _ _ (hrel.glob _ (Nat.le_refl _))) fun g cs hle hgl j v hj => ?_
    obtain ⟨hl, el, m, hget⟩ := hg g cs hle hgl
    have q := hrel.blk _ _ _ _ (hrel.glob g hle) hget
    obtain ⟨A, v', e1, e2, e3⟩ := q.cells (fun h => by cases h) j v (Nat.zero_le _) (fun h => by cases h) hj
    have hA : A = j := by simp at e1; omega
    subst hA
    have hlv : leaf v = true := by
      rw [List.all_eq_true] at hl
      exact hl v (List.mem_of_getElem? hj)
    obtain rfl := e3.leaf_eq hlv
    exact ⟨_, e2, .leaf _ hlv⟩
  exact law_of_run hI hm hk hs st0.rel st0.wf (VRL.nil _) st0.new st0.low st0.their
section
variable {P : Program} {I : Prims} {ops : Array Oper} {r : List Oper} {Q : Env → St → Prop} {e : Env} {S : St} {dst : Option Tmp} {ty : TypeId} {pos : String} {after : Array Edge}
/-- An append to an empty literal. -/
theorem O_lit0 {s x : Operand} {t tx elem size bytes m b o L : Nat} {z : Value} {ys : List Value} (hu : P.underlying t = some (.slice elem)) (hs : asize P elem = some size) (hb : abytes P elem = some bytes) (hz : azero P elem = some z)
    (hc : 0 < size ∧ 0 < bytes ∧ z.cells.size = size) (hv : e.ev s = .slice (some ⟨b, o, some L⟩) 0 0) (hx : asrc P S tx size (e.ev x) = some (m, ys)) (hm : 0 < m) (hy : ys.length = m * size ∧ ys.all oneC = true) (hl : (3 * m + 2048) * bytes ≤ 281474976710656)
    (hk : ∀ v' S', Own elem size S' v' m ys → Kept S S' none → (∀ i, blkOf v' = some i → S.next ≤ i) → O P I ops r [] Q (e.putO dst v') S') :
    O P I ops (⟨dst, .call ⟨.builtin .append, #[s, x], #[t, tx]⟩, ty, pos, after, none⟩ :: r) [] Q e S := by
  have ha : aappend P S t tx (e.ev s) (e.ev x) = some (.slice (some ⟨S.next, 0, some ys.length⟩) m (UNK + size), S.push ⟨ys, elem, true, 0⟩) := by
    rw [hv]
    have h1 : ¬ (0 : Nat) = UNK + size := by unfold UNK; omega
    have h2 : ¬ UNK ≤ 0 := by decide
    simp only [aappend, hu, hs, hb, hz, hc, and_self, if_true, hx, if_neg (show ¬ m = 0 by omega), if_neg h1, if_neg h2, if_neg (show ¬ 0 + m ≤ 0 by omega)]
    rw [if_pos ⟨by simpa using hl, by omega, rfl⟩]
    simp
  rw [O_step rfl]
  have : aop P e.ev ⟨dst, .call ⟨.builtin .append, #[s, x], #[t, tx]⟩, ty, pos, after, none⟩ S = some (.slice (some ⟨S.next, 0, some ys.length⟩) m (UNK + size), S.push ⟨ys, elem, true, 0⟩) := by
    rw [aop_builtin]
    show alt (aappend P S t tx (e.ev s) (e.ev x)) _ = _
    rw [ha, alt_some]
  rw [this]
  refine ⟨rfl, hk _ _ ⟨hy.1, hy.2, .inr ⟨S.next, 0, rfl, S.get_push_self _, Nat.zero_le _, by simp [sO], hm⟩⟩ (Kept.push _ none) (fun i hi => by cases hi; exact Nat.le_refl _)⟩
end
end Go.Proofs.YtdfgdpjlbcnkfaaDoorAbs
