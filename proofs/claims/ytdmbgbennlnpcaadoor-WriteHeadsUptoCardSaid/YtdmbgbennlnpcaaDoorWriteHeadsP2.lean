/- What the law WriteHeads needs, part 2: the runner over a plain memory, words, the functions that it reaches, each by its own contract; for the inputs that each theorem names. -/
import Derived.Test.YtdmbgbennlnpcaaDoorWriteHeadsP1
import Derived.Scope
import Derived.Below
import Derived.WalkKit
import Derived.KernelRfl
import Derived.Test.YtdmbgbennlnpcaaDoorProg
import Derived.Lib.Bytealg
import Derived.Lib.SlTrimSet
namespace Go.Proofs.YtdmbgbennlnpcaaDoorAbs
set_option linter.unusedVariables false
set_option linter.unusedSimpArgs false
def blkV : Value → Option Nat
  | .pointer (some a) => some a.block
  | _ => none
def adr : Op → Option Tmp
  | .load _ (.tmp a) => some a
  | .store _ (.tmp a) _ => some a
  | _ => none
def isLd : Op → Bool
  | .load _ (.tmp _) => true
  | _ => false
def isSt : Op → Bool
  | .store _ (.tmp _) _ => true
  | _ => false
def isAl : Op → Bool
  | .alloc _ => true
  | _ => false
def stAt (ops : Array Oper) (s : Nat) : Bool := match ops[s]? with | some o => isSt o.op | none => false
def adrAt (ops : Array Oper) (i : Nat) : Option Tmp := (ops[i]?).bind fun o => adr o.op
def softOne (ops : Array Oper) (i : Nat) : Bool := match ops[i]? with
  | some o => (isP o.op || isLd o.op || isAl o.op || (isSt o.op && o.guard.isNone)) && (match adr o.op with | some x => (List.range ops.size).all fun j => decide (j < i) || (ops[j]?).bind (·.dst) != some x | none => true)
  | none => true
def softB (ops : Array Oper) : Bool := (List.range ops.size).any (fun i => stAt ops i && (flagsOf ops).getD i false) && (List.range ops.size).all (softOne ops)
def softFl (ops : Array Oper) : List Bool := (List.range ops.size).map fun i => !stAt ops i
def sepB (ops : Array Oper) (e : Env) : Bool := (List.range ops.size).all fun s => !stAt ops s || (List.range ops.size).all fun i => i == s || (match adrAt ops i, adrAt ops s with | some x, some y => blkV (e.get x) != blkV (e.get y) | _, _ => true)
theorem ascalar_free {P : Program} {ev : Operand → Value} {o : Oper} : ∃ q : Option Value, ∀ S, ascalar P ev o S = q.map fun v => (v, S) := by
  unfold ascalar
  (repeat' split) <;> first | exact ⟨some _, fun _ => rfl⟩ | exact ⟨none, fun _ => rfl⟩
theorem aload_same {P : Program} {S S2 : St} {t : TypeId} {v : Value} (h : ∀ b, blkV v = some b → S2.get b = S.get b) : aload P S2 t v = aload P S t v := by
  unfold aload
  split
  · rename_i a
    have : ∀ n, aread S2 a n = aread S a n := fun n => by unfold aread; rw [h a.block rfl]
    simp only [this]
  · rfl
theorem ld_run {P : Program} {call : CallF} {ev : Operand → Value} {o : Oper} {S S' : St} {v : Value} {t : TypeId} {x : Operand} (ho : o.op = .load t x) (hr : arun P call ev o S = some (v, S')) :
    S' = S ∧ ∀ S2, (∀ b, blkV (ev x) = some b → S2.get b = S.get b) → arun P call ev o S2 = some (v, S2) := by
  obtain ⟨q, hq⟩ := ascalar_free (P := P) (ev := ev) (o := o)
  have e1 : ∀ S, arun P call ev o S = match aload P S t (ev x) with | some v => some (v, S) | none => q.map fun v => (v, S) := fun S => by
    unfold arun
    rw [ho]
    simp only [aop, ho, aopH]
    cases h : aload P S t (ev x) with
    | some u => rfl
    | none => simp only; exact hq S
  rw [e1] at hr
  have key : ∀ S2, (∀ b, blkV (ev x) = some b → S2.get b = S.get b) → arun P call ev o S2 = match aload P S t (ev x) with | some v => some (v, S2) | none => q.map fun v => (v, S2) := fun S2 h => by
    rw [e1, aload_same h]
  cases h : aload P S t (ev x) with
  | some u =>
    rw [h] at hr
    cases hr
    exact ⟨rfl, fun S2 k => by rw [key S2 k, h]⟩
  | none =>
    rw [h] at hr
    cases q with
    | none => cases hr
    | some u => cases hr; exact ⟨rfl, fun S2 k => by rw [key S2 k, h]; rfl⟩
theorem awrite_at {S S' : St} {a : Addr} {vs : List Value} (h : awrite S a vs = some S') : ∃ blk, S' = S.upd a.block blk ∧ (S.get a.block).isSome = true ∧ a.block < S.next ∧ ∀ S2 : St, S2.get a.block = S.get a.block → a.block < S2.next → awrite S2 a vs = some (S2.upd a.block blk) := by
  unfold awrite at h
  split at h
  · rename_i L B h1 h2
    split at h
    · rename_i hc
      cases h
      refine ⟨_, rfl, by rw [h2]; rfl, hc.2.2.2.2.1, fun S2 k hn => ?_⟩
      unfold awrite
      rw [h1, k, h2]
      simp only
      rw [if_pos ⟨hc.1, hc.2.1, hc.2.2.1, hc.2.2.2.1, hn, hc.2.2.2.2.2⟩]
    · cases h
  · cases h
theorem st_run {P : Program} {call : CallF} {ev : Operand → Value} {o : Oper} {S S' : St} {v : Value} {t : TypeId} {x y : Operand} (ho : o.op = .store t x y) (hr : arun P call ev o S = some (v, S')) :
    (blkV (ev x) = none ∧ S' = S ∧ ∀ S2, arun P call ev o S2 = some (v, S2)) ∨ (∃ b blk, blkV (ev x) = some b ∧ v = undef ∧ S' = S.upd b blk ∧ b < S.next ∧ (S.get b).isSome = true ∧ ∀ S2 : St, S2.get b = S.get b → b < S2.next → astore P S2 t (ev x) (ev y) = some (S2.upd b blk)) := by
  obtain ⟨q, hq⟩ := ascalar_free (P := P) (ev := ev) (o := o)
  have e1 : ∀ S, arun P call ev o S = match astore P S t (ev x) (ev y) with | some S' => some (undef, S') | none => q.map fun v => (v, S) := fun S => by
    unfold arun
    rw [ho]
    simp only [aop, ho, aopH]
    cases h : astore P S t (ev x) (ev y) with
    | some u => rfl
    | none => simp only; exact hq S
  rw [e1] at hr
  cases hb : blkV (ev x) with
  | none =>
    refine .inl ⟨rfl, ?_⟩
    have hn : ∀ S, astore P S t (ev x) (ev y) = none := fun S => by
      unfold astore
      split
      · rename_i a ha
        rw [ha] at hb
        cases hb
      · rfl
    rw [hn] at hr
    simp only at hr
    cases q with
    | none => cases hr
    | some u => cases hr; exact ⟨rfl, fun S2 => by rw [e1, hn]; rfl⟩
  | some b =>
    right
    have hq0 : q = none := by
      have := hq S
      unfold ascalar at this
      rw [if_neg] at this
      · cases q with
        | none => rfl
        | some u => cases this
      · rintro ⟨h1, _⟩
        rw [ho, Array.all_eq_true_iff_forall_mem] at h1
        have := h1 x (by simp [Op.operands])
        unfold blkV at hb
        split at hb
        · rename_i a ha
          rw [ha] at this
          simp [scalar, leaf] at this
        · cases hb
    subst hq0
    cases h : astore P S t (ev x) (ev y) with
    | none => rw [h] at hr; cases hr
    | some S2 =>
      rw [h] at hr
      cases hr
      unfold astore at h
      split at h
      case h_2 => cases h
      rename_i a ha
      split at h
      case isFalse => cases h
      rename_i hsz
      obtain ⟨blk, k1, k2, k3, k4⟩ := awrite_at h
      have hab : a.block = b := by rw [ha] at hb; simpa [blkV] using hb
      subst hab
      refine ⟨a.block, blk, rfl, rfl, k1, k3, k2, fun S3 g1 g2 => ?_⟩
      unfold astore
      rw [ha]
      simp only
      rw [if_pos hsz]
      exact k4 S3 g1 g2
theorem al_run {P : Program} {call : CallF} {ev : Operand → Value} {o : Oper} {S S' : St} {v : Value} {t : TypeId} (ho : o.op = .alloc t) (hr : arun P call ev o S = some (v, S')) :
    (S' = S ∧ ∀ S2, arun P call ev o S2 = some (v, S2)) ∨ (∃ n blk, v = ptrAt S.next n ∧ S' = S.push blk ∧ ∀ S2 : St, arun P call ev o S2 = some (ptrAt S2.next n, S2.push blk)) := by
  obtain ⟨q, hq⟩ := ascalar_free (P := P) (ev := ev) (o := o)
  have e1 : ∀ S, arun P call ev o S = match aopH P ev (.alloc t) S with | some r => some r | none => q.map fun v => (v, S) := fun S => by
    unfold arun
    rw [ho]
    simp only [aop, ho]
    cases h : aopH P ev (.alloc t) S with
    | some u => rfl
    | none => simp only; exact hq S
  rw [e1] at hr
  have e2 : (∀ S, aopH P ev (.alloc t) S = none) ∨ ∃ n blk, ∀ S : St, aopH P ev (.alloc t) S = some (ptrAt S.next n, S.push blk) := by
    simp only [aopH]
    cases azero P t with
    | none => exact .inl fun _ => rfl
    | some z =>
      by_cases hc : scalar z = true ∧ (asize P t).isSome = true
      · exact .inr ⟨_, _, fun S => by simp only; rw [if_pos hc]⟩
      · exact .inl fun S => by simp only; rw [if_neg hc]
  rcases e2 with h | ⟨n, blk, h⟩
  · left
    rw [h] at hr
    simp only at hr
    cases q with
    | none => cases hr
    | some u => cases hr; exact ⟨rfl, fun S2 => by rw [e1, h]; rfl⟩
  · right
    rw [h] at hr
    cases hr
    exact ⟨n, blk, rfl, rfl, fun S2 => by rw [e1, h]⟩
theorem st_form {op : Op} (h : isSt op = true) : ∃ t x y, op = .store t (.tmp x) y := by
  unfold isSt at h
  split at h
  · exact ⟨_, _, _, rfl⟩
  · cases h
theorem ld_form {op : Op} (h : isLd op = true) : ∃ t x, op = .load t (.tmp x) := by
  unfold isLd at h
  split at h
  · exact ⟨_, _, rfl⟩
  · cases h
theorem al_form {op : Op} (h : isAl op = true) : ∃ t, op = .alloc t := by
  unfold isAl at h
  split at h
  · exact ⟨_, rfl⟩
  · cases h
theorem combine {P : Program} {ρ0 ρ ρ' : Ren} {S0 SC X X1 : St} {w0 w w' : World} (I : Step P ρ0 S0 w0 ρ SC w) (h1 : X.next ≤ X1.low) (st : Step P ρ X w ρ' X1 w') (hag : ∀ b, b < X1.next → SC.get b = X1.get b) (hn : X1.next ≤ SC.next) (h0 : S0.next ≤ X.next) :
    Step P ρ0 S0 w0 ρ' SC w' ∧ ∀ b L loc, ρ' b L = some loc → ρ b L = none → X.next ≤ b ∧ b < X1.next := by
  have heap : ∀ B, B < w.heap.size → w'.heap[B]? = w.heap[B]? := fun B hB => st.keep X.next B (Nat.le_refl _) h1 hB fun b L loc _ _ h1 h2 => absurd h2 (Nat.not_lt_of_le h1)
  have hnew : ∀ b L loc, ρ' b L = some loc → ρ b L = none → X.next ≤ b ∧ b < X1.next := by
    intro b L loc k1 k2
    obtain ⟨a1, _⟩ := st.new b L loc k1 k2
    rcases a1 with ⟨c1, c2⟩ | ⟨c1, c2⟩
    · exact ⟨c1, c2⟩
    · exact absurd (Nat.lt_of_lt_of_le c1 h1) (Nat.not_lt_of_le c2)
  have hnewB : ∀ b L loc, ρ' b L = some loc → ρ b L = none → w.heap.size ≤ loc.B := by
    intro b L loc k1 k2
    rcases (st.new b L loc k1 k2).2 with a2 | ⟨b0, L0, loc0, c0, c4, _⟩
    · exact a2
    · exact absurd (Nat.lt_of_lt_of_le (show b0 < X.next from c0) h1) (Nat.not_lt_of_le c4)
  refine ⟨⟨Ren.le_trans I.ext st.ext, I.env.trans st.env, ⟨st.rel.glob, st.rel.loc, fun b L loc blk k g => ?_, fun b1 L1 l1 b2 L2 l2 k1 k2 o e al1 al2 => ?_⟩, Nat.le_trans I.hsz st.hsz, I.next, I.low, fun b L loc k1 k2 => ?_, fun mm B hm1 hm2 hB hk => ?_⟩, hnew⟩
  · by_cases q : b < X1.next
    · rw [hag b q] at g
      exact st.rel.blk b L loc blk k g
    · cases hc : ρ b L with
      | none => exact absurd (hnew b L loc k hc).2 q
      | some loc' =>
        have e := st.ext _ _ _ hc
        rw [k] at e
        cases e
        have r := I.rel.blk b L loc blk hc g
        have hB := I.rel.loc b L loc hc
        refine ⟨r.own, fun ow => ?_, fun al j u h1 h2 h3 => ?_, fun o e => by rw [heap _ hB]; exact r.all o e⟩
        · obtain ⟨q1, q2, q3, C, fr, q4, q5⟩ := r.row ow
          exact ⟨q1, q2, q3, C, fr, by rw [heap _ hB]; exact q4, q5⟩
        · obtain ⟨A, u', e1, e2, e3⟩ := r.cells al j u h1 h2 h3
          refine ⟨A, u', e1, ?_, e3.mono st.ext⟩
          unfold World.cell? at *
          rw [heap _ hB]
          exact e2
  · have alS1 : ∀ {b L}, b < X1.next → Alive SC b L → Alive X1 b L := by
      rintro b L hb ⟨blk, g1, g2⟩
      rw [hag b hb] at g1
      exact ⟨blk, g1, g2⟩
    cases hc1 : ρ b1 L1 with
    | some l1' =>
      have e1 := st.ext _ _ _ hc1
      rw [k1] at e1
      cases e1
      cases hc2 : ρ b2 L2 with
      | some l2' =>
        have e2 := st.ext _ _ _ hc2
        rw [k2] at e2
        cases e2
        exact I.rel.inj _ _ _ _ _ _ hc1 hc2 o e al1 al2
      | none =>
        have := hnewB _ _ _ k2 hc2
        have := I.rel.loc _ _ _ hc1
        omega
    | none =>
      cases hc2 : ρ b2 L2 with
      | some l2' =>
        have e2 := st.ext _ _ _ hc2
        rw [k2] at e2
        cases e2
        have := hnewB _ _ _ k1 hc1
        have := I.rel.loc _ _ _ hc2
        omega
      | none => exact st.rel.inj _ _ _ _ _ _ k1 k2 o e (alS1 (hnew _ _ _ k1 hc1).2 al1) (alS1 (hnew _ _ _ k2 hc2).2 al2)
  · cases hc : ρ b L with
    | some loc' =>
      have e := st.ext _ _ _ hc
      rw [k1] at e
      cases e
      exact I.new b L loc hc k2
    | none =>
      have q := hnew b L loc k1 hc
      exact ⟨.inl ⟨by omega, by omega⟩, .inl (Nat.le_trans I.hsz (hnewB b L loc k1 hc))⟩
  · rw [heap B (Nat.lt_of_lt_of_le hB I.hsz)]
    exact I.keep mm B hm1 hm2 hB hk
section
variable {P : Program} {call : CallF} {ops : Array Oper} {E : Nat → Env} {T : Nat → St} {N : Nat}
structure DrawS (P : Program) (call : CallF) (ops : Array Oper) (E : Nat → Env) (T : Nat → St) (N : Nat) : Prop where
  cs : CallSim P call
  ok : ∀ o ∈ ops.toList, okOper P N o = true
  dr : drawOk ops = true
  tr : ∀ k o, ops[k]? = some o → astep P call ops o (!isSt o.op) (E k) (T k) = some (E (k + 1), T (k + 1))
  wf : (T 0).WF
  kind : ∀ (k : Nat) (o : Oper), ops[k]? = some o → isP o.op = true ∨ isLd o.op = true ∨ isAl o.op = true ∨ (isSt o.op = true ∧ o.guard = none)
  noW : ∀ (k : Nat) (o : Oper) (x : Tmp), ops[k]? = some o → adr o.op = some x → ∀ j : Nat, k ≤ j → (ops[j]?).bind (·.dst) ≠ some x
  sep : ∀ (k : Nat) (o : Oper) (x : Tmp) (s : Nat) (os : Oper) (y : Tmp), ops[k]? = some o → ops[s]? = some os → isSt os.op = true → k ≠ s → adr o.op = some x → adr os.op = some y → blkV ((E ops.size).get x) ≠ blkV ((E ops.size).get y)
def tgt (ops : Array Oper) (E : Nat → Env) (s : Nat) : Option Nat := match ops[s]? with
  | some o => if isSt o.op = true then (adr o.op).bind fun y => blkV ((E ops.size).get y) else none
  | none => none
theorem tgt_some {s b : Nat} (h : tgt ops E s = some b) : ∃ o t y z, ops[s]? = some o ∧ o.op = .store t (.tmp y) z ∧ isSt o.op = true ∧ blkV ((E ops.size).get y) = some b := by
  unfold tgt at h
  split at h
  case h_2 => cases h
  rename_i o ho
  split at h
  case isFalse => cases h
  rename_i hs
  obtain ⟨t, y, z, e⟩ := st_form hs
  rw [e] at h
  exact ⟨o, t, y, z, ho, e, hs, h⟩
theorem DrawS.uniq (d : DrawS P call ops E T N) {s s' b : Nat} (h : tgt ops E s = some b) (h' : tgt ops E s' = some b) : s = s' := by
  obtain ⟨o, t, y, z, h1, h2, h3, h4⟩ := tgt_some h
  obtain ⟨o', t', y', z', k1, k2, k3, k4⟩ := tgt_some h'
  by_cases e : s = s'
  · exact e
  · exact absurd (h4.trans k4.symm) (d.sep s o y s' o' y' h1 k1 k3 e (by rw [h2]; rfl) (by rw [k2]; rfl))
theorem DrawS.put (d : DrawS P call ops E T N) {k : Nat} {o : Oper} (ho : ops[k]? = some o) : ∃ v, E (k + 1) = (E k).putO o.dst v := by
  have ht := d.tr k o ho
  unfold astep at ht
  split at ht
  · split at ht
    · split at ht
      · simp only [Option.some.injEq, Prod.mk.injEq] at ht
        exact ⟨_, ht.1.symm⟩
      · cases ht
    · split at ht
      · split at ht
        · simp only [Option.some.injEq, Prod.mk.injEq] at ht
          exact ⟨_, ht.1.symm⟩
        · cases ht
      · cases ht
  · simp only [Option.some.injEq, Prod.mk.injEq] at ht
    exact ⟨_, ht.1.symm⟩
theorem DrawS.get_ne (d : DrawS P call ops E T N) {k : Nat} (hk : k < ops.size) {t : Tmp} (h : (ops[k]?).bind (·.dst) ≠ some t) : (E (k + 1)).get t = (E k).get t := by
  have ho := Array.getElem?_eq_getElem hk
  obtain ⟨v, e⟩ := d.put ho
  rw [e]
  rw [ho] at h
  simp only [Option.bind_some] at h
  cases hd : (ops[k]).dst with
  | none => rfl
  | some s =>
    rw [putO_get, if_neg]
    intro q
    subst q
    exact h hd
theorem DrawS.tx_all (d : DrawS P call ops E T N) {listed : Array Bool} {t : Tmp} : ∀ {m : Nat}, m ≤ ops.size → (∀ j, j < m → (ops[j]?).bind (·.dst) = some t → listed.getD j false = true) → TX ops E listed m t = (E m).get t
  | 0, _, _ => rfl
  | m + 1, hm, h => by
    unfold TX
    split
    · rfl
    · rename_i hc
      have hd : (ops[m]?).bind (·.dst) ≠ some t := fun q => hc ⟨h m (by omega) q, q⟩
      rw [d.get_ne (by omega) hd]
      exact d.tx_all (by omega) (fun j hj => h j (by omega))
theorem DrawS.held (d : DrawS P call ops E T N) {k : Nat} {t : Tmp} (h : ∀ j, k ≤ j → (ops[j]?).bind (·.dst) ≠ some t) : ∀ {m : Nat}, k ≤ m → m ≤ ops.size → (E m).get t = (E k).get t
  | 0, hk, _ => by
    obtain rfl : k = 0 := by omega
    rfl
  | m + 1, hk, hm => by
    by_cases e : k = m + 1
    · rw [e]
    · rw [d.get_ne (by omega) (h m (by omega))]
      exact d.held h (by omega) (by omega)
theorem DrawS.edges (d : DrawS P call ops E T N) {j : Nat} {o : Oper} (ho : ops[j]? = some o) {e : Edge} (he : e ∈ o.after) (hb : Region.binds .any e = true) : e.on < j := by
  have hd := d.dr
  unfold drawOk at hd
  rw [List.all_eq_true] at hd
  have := hd j (List.mem_range.2 (Array.getElem?_eq_some_iff.1 ho).1)
  simp only [ho, Bool.and_eq_true] at this
  have h1 := this.1
  rw [Array.all_eq_true_iff_forall_mem] at h1
  have := h1 e he
  simpa [hb] using this
theorem DrawS.shares (d : DrawS P call ops E T N) {i j : Nat} {oi oj : Oper} (hij : i < j) (hi : ops[i]? = some oi) (hj : ops[j]? = some oj) (hs : sharesB ops oi oj = true) : Anc ops i j := by
  have hd := d.dr
  unfold drawOk at hd
  rw [List.all_eq_true] at hd
  have := hd j (List.mem_range.2 (Array.getElem?_eq_some_iff.1 hj).1)
  simp only [hj, Bool.and_eq_true] at this
  have h2 := this.2
  rw [List.all_eq_true] at h2
  have := h2 i (List.mem_range.2 hij)
  simp only [hi, hs, Bool.not_true, Bool.false_or] at this
  exact anc_of this
theorem DrawS.mono1 (d : DrawS P call ops E T N) {k : Nat} (h : k < ops.size) : Mono (T k) (T (k + 1)) := astep_mono d.cs (d.tr k _ (Array.getElem?_eq_getElem h))
theorem DrawS.mono (d : DrawS P call ops E T N) {i : Nat} : ∀ {k : Nat}, i ≤ k → k ≤ ops.size → Mono (T i) (T k)
  | 0, h, _ => by
    obtain rfl : i = 0 := by omega
    exact Mono.refl _
  | k + 1, h, hk => by
    by_cases e : i = k + 1
    · subst e; exact Mono.refl _
    · exact (d.mono (by omega : i ≤ k) (by omega)).trans (d.mono1 (by omega))
theorem DrawS.wfk (d : DrawS P call ops E T N) {k : Nat} (h : k ≤ ops.size) : (T k).WF := (d.mono (Nat.zero_le k) h).wf d.wf
theorem DrawS.adrv (d : DrawS P call ops E T N) {i : Nat} {o : Oper} {x : Tmp} (ho : ops[i]? = some o) (hx : adr o.op = some x) : (E ops.size).get x = (E i).get x :=
  d.held (fun j hj => d.noW i o x ho hx j hj) (Nat.le_of_lt (Array.getElem?_eq_some_iff.1 ho).1) (Nat.le_refl _)
theorem DrawS.store (d : DrawS P call ops E T N) {s b : Nat} (h : tgt ops E s = some b) : ∃ o t y z blk, ops[s]? = some o ∧ o.op = .store t (.tmp y) z ∧ o.guard = none ∧ blkV ((E s).get y) = some b ∧ E (s + 1) = (E s).putO o.dst undef ∧ T (s + 1) = (T s).upd b blk ∧ b < (T s).next ∧
    (∀ S2 : St, S2.get b = (T s).get b → b < S2.next → astore P S2 t ((E s).get y) ((E s).ev z) = some (S2.upd b blk)) := by
  obtain ⟨o, t, y, z, ho, hop, hs, hb⟩ := tgt_some h
  have hg : o.guard = none := by
    rcases d.kind s o ho with q | q | q | q
    · rw [hop] at q; cases q
    · rw [hop] at q; cases q
    · rw [hop] at q; cases q
    · exact q.2
  rw [d.adrv ho (by rw [hop]; rfl)] at hb
  have ht := d.tr s o ho
  rw [hs, Bool.not_true] at ht
  unfold astep at ht
  rw [if_pos (show wants ops o (E s) = true by unfold wants; rw [hg])] at ht
  simp only at ht
  split at ht
  case h_2 => cases ht
  rename_i v S1 hrun
  simp only [Option.some.injEq, Prod.mk.injEq] at ht
  obtain ⟨h1, rfl⟩ := ht
  rcases st_run hop hrun with ⟨k1, _⟩ | ⟨b', blk, k1, k2, k3, k4, k5, k6⟩
  · rw [show (E s).ev (.tmp y) = (E s).get y from rfl, hb] at k1; cases k1
  · rw [show (E s).ev (.tmp y) = (E s).get y from rfl, hb] at k1
    cases k1
    subst k2
    exact ⟨o, t, y, z, blk, ho, hop, hg, hb, h1.symm, k3, k4, k6⟩
theorem DrawS.quiet (d : DrawS P call ops E T N) {i : Nat} {o : Oper} (ho : ops[i]? = some o) (hw : wants ops o (E i) = true) (hq : tgt ops E i = none) : ∃ v, E (i + 1) = (E i).putO o.dst v ∧
    (((T (i + 1)).next = (T i).next ∧ (∀ b, (T (i + 1)).get b = (T i).get b) ∧ ∀ X : St, (∀ x b, isLd o.op = true → adr o.op = some x → blkV ((E i).get x) = some b → X.get b = (T i).get b) → arun P call (E i).ev o X = some (v, X)) ∨
     (∃ blk, (T (i + 1)).next = (T i).next + 1 ∧ (∀ b, (T (i + 1)).get b = ((T i).push blk).get b) ∧ ∀ X : St, X.next = (T i).next → arun P call (E i).ev o X = some (v, X.push blk))) := by
  have ht := d.tr i o ho
  unfold astep at ht
  rw [if_pos hw] at ht
  by_cases hs : isSt o.op = true
  · rw [hs, Bool.not_true] at ht
    simp only at ht
    split at ht
    case h_2 => cases ht
    rename_i v S1 hrun
    simp only [Option.some.injEq, Prod.mk.injEq] at ht
    obtain ⟨h1, rfl⟩ := ht
    obtain ⟨t, y, z, hop⟩ := st_form hs
    rcases st_run hop hrun with ⟨k1, k2, k3⟩ | ⟨b', blk, k1, _⟩
    · exact ⟨v, h1.symm, .inl ⟨by rw [k2], fun b => by rw [k2], fun X _ => k3 X⟩⟩
    · exfalso
      unfold tgt at hq
      simp only [ho] at hq
      rw [if_pos hs, hop] at hq
      simp only [adr, Option.bind_some] at hq
      rw [d.adrv ho (by rw [hop]; rfl)] at hq
      rw [show (E i).ev (.tmp y) = (E i).get y from rfl, hq] at k1
      cases k1
  · have hs' : isSt o.op = false := by simpa using hs
    rw [hs', Bool.not_false] at ht
    simp only at ht
    split at ht
    case h_2 => cases ht
    rename_i v S1 hrun
    split at ht
    case isFalse => cases ht
    simp only [Option.some.injEq, Prod.mk.injEq] at ht
    obtain ⟨h1, h2⟩ := ht
    refine ⟨v, h1.symm, ?_⟩
    rcases d.kind i o ho with q | q | q | q
    · obtain ⟨k1, k2⟩ := pure_run q hrun
      subst k1
      exact .inl ⟨by rw [← h2]; rfl, fun b => by rw [← h2]; rfl, fun X _ => k2 X⟩
    · obtain ⟨t, x, hop⟩ := ld_form q
      obtain ⟨k1, k2⟩ := ld_run hop hrun
      subst k1
      exact .inl ⟨by rw [← h2]; rfl, fun b => by rw [← h2]; rfl, fun X hX => k2 X fun b hb => hX x b q (by rw [hop]; rfl) hb⟩
    · obtain ⟨t, hop⟩ := al_form q
      rcases al_run hop hrun with ⟨k1, k2⟩ | ⟨n, blk, k1, k2, k3⟩
      · subst k1
        exact .inl ⟨by rw [← h2]; rfl, fun b => by rw [← h2]; rfl, fun X _ => k2 X⟩
      · subst k2
        refine .inr ⟨blk, by rw [← h2]; rfl, fun b => by rw [← h2]; rfl, fun X hX => ?_⟩
        rw [k3 X, k1, hX]
        rfl
    · exact absurd q.1 hs
theorem DrawS.agree1 (d : DrawS P call ops E T N) {k b : Nat} (h : k < ops.size) (hb : b < (T k).next) (hn : tgt ops E k ≠ some b) : (T (k + 1)).get b = (T k).get b := by
  have ho := Array.getElem?_eq_getElem h
  cases ht : tgt ops E k with
  | some b' =>
    obtain ⟨o, t, y, z, blk, k1, k2, k3, k4, k5, k6, k7, k8⟩ := d.store ht
    rw [k6]
    exact St.get_upd_ne _ _ (fun e => hn (by rw [ht, e]))
  | none =>
    by_cases hw : wants ops ops[k] (E k) = true
    · obtain ⟨v, _, ⟨_, q, _⟩ | ⟨blk, _, q, _⟩⟩ := d.quiet ho hw ht
      · exact q b
      · rw [q b]; exact St.get_push_lt _ _ hb
    · have h2 := d.tr k _ ho
      unfold astep at h2
      rw [if_neg hw] at h2
      simp only [Option.some.injEq, Prod.mk.injEq] at h2
      rw [← h2.2]
theorem DrawS.agree (d : DrawS P call ops E T N) {i b : Nat} : ∀ {k : Nat}, i ≤ k → k ≤ ops.size → b < (T i).next → (∀ j, i ≤ j → j < k → tgt ops E j ≠ some b) → (T k).get b = (T i).get b
  | 0, h, _, _, _ => by
    obtain rfl : i = 0 := by omega
    rfl
  | k + 1, h, hk, hb, hn => by
    by_cases e : i = k + 1
    · rw [e]
    · rw [d.agree1 (k := k) (by omega) (Nat.lt_of_lt_of_le hb (d.mono (by omega : i ≤ k) (by omega)).next) (hn k (by omega) (by omega))]
      exact d.agree (by omega) (by omega) hb (fun j h1 h2 => hn j h1 (by omega))
def UN (ops : Array Oper) (E : Nat → Env) (listed : Array Bool) (b s : Nat) : Prop := tgt ops E s = some b ∧ listed.getD s false = false
open Classical in
noncomputable def pk (T : Nat → St) (n : Nat) (U : Nat → Prop) (b : Nat) : Option Blk := if h : ∃ s, U s then (T h.choose).get b else (T n).get b
noncomputable def SC (ops : Array Oper) (E : Nat → Env) (T : Nat → St) (listed : Array Bool) : St :=
  { get := fun b => pk T ops.size (UN ops E listed b) b, next := (T ops.size).next, low := (T ops.size).low }
theorem DrawS.sc_un (d : DrawS P call ops E T N) {listed : Array Bool} {b s : Nat} (h : UN ops E listed b s) : (SC ops E T listed).get b = (T s).get b := by
  have hex : ∃ s, UN ops E listed b s := ⟨s, h⟩
  show pk T ops.size (UN ops E listed b) b = _
  unfold pk
  rw [dif_pos hex, d.uniq hex.choose_spec.1 h.1]
theorem sc_li {listed : Array Bool} {b : Nat} (h : ∀ s, ¬ UN ops E listed b s) : (SC ops E T listed).get b = (T ops.size).get b := by
  show pk T ops.size (UN ops E listed b) b = _
  unfold pk
  exact dif_neg fun ⟨s, q⟩ => h s q
theorem tgt_lt {s b : Nat} (h : tgt ops E s = some b) : s < ops.size := by
  obtain ⟨o, _, _, _, h1, _⟩ := tgt_some h
  exact (Array.getElem?_eq_some_iff.1 h1).1
theorem DrawS.sc_wf (d : DrawS P call ops E T N) (listed : Array Bool) : (SC ops E T listed).WF := by
  intro b hb
  have hb' : (T ops.size).next ≤ b := hb
  by_cases h : ∃ s, UN ops E listed b s
  · obtain ⟨s, h⟩ := h
    rw [d.sc_un h]
    have hs := tgt_lt h.1
    exact d.wfk (Nat.le_of_lt hs) b (Nat.le_trans (d.mono (Nat.le_of_lt hs) (Nat.le_refl _)).next hb')
  · rw [sc_li fun s q => h ⟨s, q⟩]
    exact d.wfk (Nat.le_refl _) b hb'
theorem DrawS.sc_at (d : DrawS P call ops E T N) {listed : Array Bool} {b i : Nat} (hi : i ≤ ops.size) (hb : b < (T i).next) (hn : ∀ s, tgt ops E s = some b → i ≤ s ∧ listed.getD s false = false) : (SC ops E T listed).get b = (T i).get b := by
  by_cases h : ∃ s, UN ops E listed b s
  · obtain ⟨s, h⟩ := h
    rw [d.sc_un h]
    have hs := tgt_lt h.1
    refine d.agree (hn s h.1).1 (Nat.le_of_lt hs) hb fun j h1 h2 q => ?_
    have := d.uniq q h.1
    omega
  · rw [sc_li fun s q => h ⟨s, q⟩]
    exact d.agree hi (Nat.le_refl _) hb fun j h1 h2 q => h ⟨j, q, (hn j q).2⟩
theorem sc_set {listed : Array Bool} {i : Nat} (hi : i < listed.size) (h : tgt ops E i = none) : SC ops E T (listed.setIfInBounds i true) = SC ops E T listed := by
  have e : ∀ b, UN ops E (listed.setIfInBounds i true) b = UN ops E listed b := fun b => by
    funext s
    unfold UN
    rw [getD_set hi]
    by_cases q : s = i
    · subst q; rw [h]; simp
    · rw [if_neg q]
  unfold SC
  simp only [e]
structure SInv (P : Program) (ops : Array Oper) (E : Nat → Env) (T : Nat → St) (N : Nat) (ρ0 : Ren) (w0 : World) (fuel : Nat) (listed : Array Bool) (ρ : Ren) (a : Act) (w : World) : Prop where
  size : listed.size = ops.size
  count : cnt ops.size listed = fuel
  down : ∀ i j, Anc ops i j → listed.getD j false = true → listed.getD i false = true
  step : Step P ρ0 (T 0) w0 ρ (SC ops E T listed) w
  keys : ∀ k, k < ops.size → listed.getD k false = false → ∀ b L, (T k).next ≤ b → b < (T (k + 1)).next → ρ b L = none
  hit : ∀ s b, tgt ops E s = some b → listed.getD s false = true → ∃ L loc, ρ b L = some loc
  tmps : ∀ t, VR ρ (TX ops E listed ops.size t) (a.tmps.getD t undef)
  tsz : a.tmps.size = N
  defers : a.defers = []
theorem soft_all (d : DrawS P call ops E T N) {ρ0 : Ren} {w0 : World} (hf0 : Fresh ρ0 (T 0) (T ops.size)) {Q : Exit → Act → World → Prop}
    (hQ : ∀ ρ a w, EnvR ρ (E ops.size) a → a.tmps.size = N → a.defers = [] → Step P ρ0 (T 0) w0 ρ (T ops.size) w → Q .normal a w) :
    ∀ (fuel : Nat) (listed : Array Bool) (ρ : Ren) (a : Act) (w : World), SInv P ops E T N ρ0 w0 fuel listed ρ a w → wpAny P .any ops Q fuel listed a w := by
  intro fuel
  induction fuel with
  | zero =>
    intro listed ρ a w I
    have hall := cnt_zero ops.size listed I.count
    refine ⟨?_, ?_⟩
    · cases hr : Region.ready .any ops listed with
      | nil => rfl
      | cons x xs =>
        exfalso
        have hx : x ∈ Region.ready .any ops listed := by rw [hr]; simp
        obtain ⟨h0, o, ho, _⟩ := mem_ready.1 hx
        have hlt : x < ops.size := (Array.getElem?_eq_some_iff.1 ho).1
        have h1 := hall x hlt
        have : x < listed.size := by rw [I.size]; exact hlt
        simp only [Array.getD_eq_getD_getElem?, Array.getElem?_eq_getElem this, Option.getD_some] at h0 h1
        rw [h0] at h1
        cases h1
    · have e : SC ops E T listed = T ops.size := by
        have hnn : ∀ b, ¬ ∃ s, UN ops E listed b s := fun b ⟨s, q1, q2⟩ => by rw [hall s (tgt_lt q1)] at q2; cases q2
        unfold SC
        have hp : ∀ b, pk T ops.size (UN ops E listed b) b = (T ops.size).get b := fun b => by
          unfold pk
          rw [dif_neg (hnn b)]
        simp only [hp]
      refine hQ ρ a w (fun t => ?_) I.tsz I.defers (e ▸ I.step)
      rw [← d.tx_all (Nat.le_refl _) (fun j hj _ => hall j hj)]
      exact I.tmps t
  | succ fuel ih =>
    intro listed ρ a w I
    refine ⟨fun hr => ?_, fun i hi => ?_⟩
    · exfalso
      have hex : ∃ i, i < ops.size ∧ listed.getD i false = false ∧ ∀ j, j < i → listed.getD j false = true := by
        have key : ∀ k, cnt k listed ≠ 0 → ∃ i, i < k ∧ listed.getD i false = false ∧ ∀ j, j < i → listed.getD j false = true := by
          intro k
          induction k with
          | zero => intro h; exact absurd rfl h
          | succ k ihk =>
            intro h
            by_cases q : cnt k listed = 0
            · refine ⟨k, by omega, ?_, cnt_zero k listed q⟩
              by_cases q2 : listed.getD k false = true
              · unfold cnt at h; rw [q, if_pos q2] at h; exact absurd rfl h
              · simpa using q2
            · obtain ⟨i, h1, h2, h3⟩ := ihk q
              exact ⟨i, by omega, h2, h3⟩
        exact key ops.size (by rw [I.count]; omega)
      obtain ⟨i, h1, h2, h3⟩ := hex
      have : i ∈ Region.ready .any ops listed := by
        rw [mem_ready]
        refine ⟨?_, _, Array.getElem?_eq_getElem h1, fun e he hb => h3 e.on (d.edges (Array.getElem?_eq_getElem h1) he hb)⟩
        have hls : i < listed.size := by rw [I.size]; exact h1
        simp only [Array.getD_eq_getD_getElem?, Array.getElem?_eq_getElem hls, Option.getD_some] at h2 ⊢
        exact h2
      rw [hr] at this
      cases this
    · obtain ⟨hun0, o, ho, hedges⟩ := mem_ready.1 hi
      have hlt : i < ops.size := (Array.getElem?_eq_some_iff.1 ho).1
      have hls : i < listed.size := by rw [I.size]; exact hlt
      have hun : listed.getD i false = false := by
        simp only [Array.getD_eq_getD_getElem?, Array.getElem?_eq_getElem hls, Option.getD_some] at hun0 ⊢
        exact hun0
      have hanc : ∀ k, Anc ops k i → listed.getD k false = true := by
        intro k hk
        generalize hi' : i = i' at hk
        induction hk with
        | edge j o' e h he hb =>
          subst hi'
          rw [ho] at h
          cases h
          exact hedges e he hb
        | trans k0 m0 j h k ih1 ih2 =>
          subst hi'
          exact I.down _ _ h (ih2 rfl)
      have hokO : okOper P N o = true := d.ok o (by simpa using Array.mem_of_getElem? ho)
      have hlook : ∀ t, t ∈ o.looksAt ops → VR ρ ((E i).get t) (a.tmps.getD t undef) := by
        intro t ht
        have h1 : TX ops E listed ops.size t = TX ops E listed i t := tx_none (Nat.le_of_lt hlt) fun j hj hjs hd => by
          by_cases e : j = i
          · subst e; exact hun
          · cases hoj : ops[j]? with
            | none => rw [hoj] at hd; cases hd
            | some oj =>
              rw [hoj] at hd
              simp only [Option.bind_some] at hd
              have := d.shares (by omega : i < j) ho hoj (by unfold sharesB; rw [hd]; simp [ht])
              by_cases q : listed.getD j false = true
              · have := I.down _ _ this q
                rw [hun] at this; cases this
              · simpa using q
        have h2 : TX ops E listed i t = (E i).get t := d.tx_all (Nat.le_of_lt hlt) fun j hj hd => by
          cases hoj : ops[j]? with
          | none => rw [hoj] at hd; cases hd
          | some oj =>
            rw [hoj] at hd
            simp only [Option.bind_some] at hd
            exact hanc j (d.shares hj hoj ho (by unfold sharesB; rw [hd]; simp [ht]))
        rw [← h2, ← h1]
        exact I.tmps t
      have hafter : ∀ t, o.dst = some t → ∀ j, i < j → (ops[j]?).bind (·.dst) = some t → listed.getD j false = false := by
        intro t ht j hj hd
        cases hoj : ops[j]? with
        | none => rw [hoj] at hd; cases hd
        | some oj =>
          rw [hoj] at hd
          simp only [Option.bind_some] at hd
          have := d.shares hj ho hoj (by unfold sharesB; rw [ht, hd]; simp)
          by_cases q : listed.getD j false = true
          · have := I.down _ _ this q
            rw [hun] at this; cases this
          · simpa using q
      have htm := d.tr i o ho
      have newtmps : ∀ ρ' v cv, ρ.le ρ' → VR ρ' v cv → E (i + 1) = (E i).putO o.dst v → ∀ t, VR ρ' (TX ops E (listed.setIfInBounds i true) ops.size t) ((a.put o.dst cv).tmps.getD t undef) := by
        intro ρ' v cv hle hv he t
        by_cases hd : o.dst = some t
        · have h1 : TX ops E (listed.setIfInBounds i true) ops.size t = TX ops E (listed.setIfInBounds i true) (i + 1) t := tx_none (by omega) fun j hj hjs hdj => by
            rw [getD_set hls, if_neg (by omega)]
            exact hafter t hd j (by omega) hdj
          have hlt2 : t < N := by
            have := hokO
            unfold okOper at this
            rw [hd] at this
            simp only [Bool.and_eq_true, decide_eq_true_eq] at this
            exact this.2
          rw [h1, TX, if_pos ⟨by rw [getD_set hls, if_pos rfl], by rw [ho]; exact hd⟩, he, hd, putO_get, if_pos rfl, put_get a cv (I.tsz ▸ hlt2), if_pos rfl]
          exact hv
        · have hd2 : (ops[i]?).bind (·.dst) ≠ some t := by rw [ho]; exact hd
          rw [tx_set hls hd2]
          have e1 : (a.put o.dst cv).tmps.getD t undef = a.tmps.getD t undef := by
            cases hdd : o.dst with
            | none => rfl
            | some s =>
              have hlt2 : s < N := by
                have := hokO
                unfold okOper at this
                rw [hdd] at this
                simp only [Bool.and_eq_true, decide_eq_true_eq] at this
                exact this.2
              rw [put_get a cv (I.tsz ▸ hlt2), if_neg]
              intro q
              subst q
              exact hd hdd
          rw [e1]
          exact (I.tmps t).mono hle
      have newdown : ∀ i' j', Anc ops i' j' → (listed.setIfInBounds i true).getD j' false = true → (listed.setIfInBounds i true).getD i' false = true := by
        intro i' j' hA hj'
        rw [getD_set hls] at hj' ⊢
        split
        · rfl
        · split at hj'
          · rename_i e
            subst e
            exact hanc i' hA
          · exact I.down i' j' hA hj'
      have newcount : cnt ops.size (listed.setIfInBounds i true) = fuel := by
        have := cnt_set ops.size listed hls hlt hun
        have := I.count
        omega
      have newsize : (listed.setIfInBounds i true).size = ops.size := by simp [I.size]
      have mono0 : ∀ k, k ≤ ops.size → (T 0).next ≤ (T k).next := fun k hk => (d.mono (Nat.zero_le k) hk).next
      have hagain : ∀ ρ' v cv w', ρ.le ρ' → VR ρ' v cv → E (i + 1) = (E i).putO o.dst v → Step P ρ0 (T 0) w0 ρ' (SC ops E T (listed.setIfInBounds i true)) w' →
          (∀ b L loc, ρ' b L = some loc → ρ b L = none → (T i).next ≤ b ∧ b < (T (i + 1)).next) → (∀ b, tgt ops E i = some b → ∃ L loc, ρ' b L = some loc) →
          wpAny P .any ops Q fuel (listed.setIfInBounds i true) (a.put o.dst cv) w' := by
        intro ρ' v cv w' hle hv he hst hnew hhit
        refine ih _ ρ' _ w' ⟨newsize, newcount, newdown, hst, fun k hk hku b L hb1 hb2 => ?_, fun s b hs hl => ?_, newtmps ρ' v cv hle hv he, (put_size a o.dst cv).trans I.tsz, (put_defers a o.dst cv).trans I.defers⟩
        · rw [getD_set hls] at hku
          split at hku
          · cases hku
          · rename_i hki
            have h0 := I.keys k hk hku b L hb1 hb2
            cases hc : ρ' b L with
            | none => rfl
            | some loc =>
              exfalso
              obtain ⟨g1, g2⟩ := hnew b L loc hc h0
              rcases Nat.lt_or_gt_of_ne hki with q | q
              · have := (d.mono (show k + 1 ≤ i by omega) (by omega)).next
                omega
              · have := (d.mono (show i + 1 ≤ k by omega) (by omega)).next
                omega
        · rw [getD_set hls] at hl
          split at hl
          · rename_i e
            rw [e] at hs
            exact hhit b hs
          · obtain ⟨L, loc, q⟩ := I.hit s b hs hl
            exact ⟨L, loc, hle _ _ _ q⟩
      have hops : ∀ t, Operand.tmp t ∈ o.op.operands → VR ρ ((E i).get t) (a.tmps.getD t undef) := fun t hm => hlook t (List.mem_append_left _ (List.mem_filterMap.2 ⟨.tmp t, by simpa using hm, rfl⟩))
      unfold wpOp
      simp only [ho]
      rw [wants_eq hlook]
      cases htg : tgt ops E i with
      | some b =>
        obtain ⟨o', t, y, z, blk, k1, k2, k3, k4, k5, k6, k7, k8⟩ := d.store htg
        rw [ho] at k1
        cases k1
        rw [if_pos (show wants ops o (E i) = true by unfold wants; rw [k3])]
        refine .inl ?_
        have hgb : (SC ops E T listed).get b = (T i).get b := d.sc_un ⟨htg, hun⟩
        have hnn : (T i).next ≤ (T ops.size).next := (d.mono (Nat.le_of_lt hlt) (Nat.le_refl _)).next
        have hst2 := k8 (SC ops E T listed) hgb (show b < (T ops.size).next by omega)
        have hx : ∀ x ∈ o.op.operands, VR ρ ((E i).ev x) (a.eval x) := fun x hm => by
          have hok := oper_ok hokO
          rw [Array.all_eq_true_iff_forall_mem] at hok
          exact opnd_rel I.step.rel (hok x hm) fun t q => hops t (q ▸ hm)
        rw [k2] at hx
        have hp := hx (.tmp y) (by simp [Op.operands])
        obtain ⟨w1, hrun, st⟩ := sim_store I.step.rel hp (hx z (by simp [Op.operands])) hst2
        have hex : ∃ L loc, ρ b L = some loc := by
          have hp' : VR ρ ((E i).get y) (a.eval (.tmp y)) := hp
          unfold blkV at k4
          split at k4
          · rename_i ad had
            rw [had] at hp'
            obtain ⟨L, loc, A, _, q, _⟩ := hp'.ptr_inv
            cases k4
            exact ⟨L, loc, q⟩
          · cases k4
        have hgo := hagain ρ undef undef w1 (Ren.le_refl ρ) (vr_undef ρ) k5 ?_ (fun b L loc h1 h2 => by rw [h1] at h2; cases h2) (fun b' hb' => by rw [htg] at hb'; cases hb'; exact hex)
        · unfold Oper.wp
          have hrun2 : (execOp a.eval o).run P w = .ok .skip w1 := by
            unfold execOp
            rw [k2]
            simp only [Sem.run_bind, hrun, Result.andThen_ok, Sem.run_pure]
          rw [hrun2]
          exact hgo
        · have hlow : (T ops.size).low ≤ b := by
            have := (d.mono (show i + 1 ≤ ops.size by omega) (Nat.le_refl _)).low
            rw [k6] at this
            simp only [St.low_upd] at this
            omega
          have sg : ∀ b', (SC ops E T (listed.setIfInBounds i true)).get b' = ((SC ops E T listed).upd b blk).get b' := by
            intro b'
            by_cases q : b' = b
            · subst q
              rw [St.get_upd_self]
              rw [sc_li fun s hs => ?_]
              · rw [d.agree (i := i + 1) (by omega) (Nat.le_refl _) (by rw [k6]; exact k7) (fun j h1 h2 h3 => by have := d.uniq h3 htg; omega), k6, St.get_upd_self]
              · have := d.uniq hs.1 htg
                have h2 := hs.2
                rw [this, getD_set hls, if_pos rfl] at h2
                cases h2
            · rw [St.get_upd_ne _ _ q]
              have eU : UN ops E (listed.setIfInBounds i true) b' = UN ops E listed b' := by
                funext s
                unfold UN
                rw [getD_set hls]
                by_cases q2 : s = i
                · subst q2
                  rw [htg]
                  have : ¬ (some b = some b') := fun q3 => q (by cases q3; rfl)
                  simp [this]
                · rw [if_neg q2]
              unfold SC
              simp only [eU]
          have st2 := I.step.trans (show Fresh ρ0 (T 0) (SC ops E T listed) from hf0) st
          have elow : ((SC ops E T listed).upd b blk).low = (T ops.size).low := Nat.min_eq_left hlow
          refine ⟨st2.ext, st2.env, st2.rel.lift fun b' L loc B' k g => (by rw [← sg]; exact g), st2.hsz, st2.next, (d.mono (Nat.zero_le _) (Nat.le_refl _)).low, fun b' L loc h1 h2 => ?_, fun mm B hm1 hm2 hB hk => st2.keep mm B hm1 (by rw [elow]; exact hm2) hB hk⟩
          have q := st2.new b' L loc h1 h2
          rw [elow] at q
          exact q
      | none =>
        have hsc := sc_set (T := T) hls htg
        have hn1 : (T i).next ≤ (T ops.size).next := (d.mono (Nat.le_of_lt hlt) (Nat.le_refl _)).next
        have hn2 : (T (i + 1)).next ≤ (T ops.size).next := (d.mono (show i + 1 ≤ ops.size by omega) (Nat.le_refl _)).next
        split
        · rename_i hw
          left
          obtain ⟨v, he, hcase⟩ := d.quiet ho hw htg
          obtain ⟨X, hXd⟩ : ∃ X : St, X = { get := fun b => if b < (T i).next then (SC ops E T listed).get b else none, next := (T i).next, low := (T i).next } := ⟨_, rfl⟩
          have hXg : ∀ b, X.get b = if b < (T i).next then (SC ops E T listed).get b else none := fun b => by rw [hXd]
          have hXn : X.next = (T i).next := by rw [hXd]
          have hXl : X.low = (T i).next := by rw [hXd]
          have hXrel : Rel P ρ X w := I.step.rel.lift fun b L loc blk k g => by
            rw [hXg] at g
            split at g
            · exact g
            · cases g
          have hXwf : X.WF := fun b hb => by
            rw [hXg, if_neg (by omega)]
          have hm0 : (T 0).next ≤ X.next := by rw [hXn]; exact mono0 i (Nat.le_of_lt hlt)
          rcases hcase with ⟨q1, q2, q3⟩ | ⟨blk, q1, q2, q3⟩
          · have hr := q3 X fun x b hl hx hb => by
              rw [hXg]
              split
              · rename_i hlt2
                refine d.sc_at (Nat.le_of_lt hlt) hlt2 fun s hs => ?_
                exfalso
                obtain ⟨os, t, y, z, k1, k2, k3, k4⟩ := tgt_some hs
                have his : i ≠ s := fun e => by rw [e] at htg; rw [htg] at hs; cases hs
                have := d.sep i o x s os y ho k1 k3 his hx (by rw [k2]; rfl)
                rw [d.adrv ho hx, hb, k4] at this
                exact this rfl
              · exact (d.wfk (Nat.le_of_lt hlt) b (by omega)).symm
            refine run_sim d.cs hXrel hXwf (oper_ok hokO) hops (fun b L h1 h2 => absurd h2 (Nat.not_lt_of_le h1)) hr fun ρ' cv w' hv st => ?_
            obtain ⟨c1, c2⟩ := combine I.step (Nat.le_of_eq (hXn.trans hXl.symm)) st (fun b hb => by rw [hXg, if_pos (by omega)]) (by rw [hXn]; exact hn1) hm0
            refine hagain ρ' v cv w' st.ext hv he (by rw [hsc]; exact c1) (fun b L loc h1 h2 => ?_) (fun b hb => by rw [htg] at hb; cases hb)
            have := c2 b L loc h1 h2
            omega
          · have hr := q3 X hXn
            have hag : ∀ b, b < (X.push blk).next → (SC ops E T listed).get b = (X.push blk).get b := fun b hb => by
              have hb' : b < X.next + 1 := hb
              by_cases q : b < X.next
              · rw [St.get_push_lt _ _ q, hXg, if_pos (by omega)]
              · obtain rfl : b = X.next := by omega
                rw [St.get_push_self, hXn]
                rw [d.sc_at (i := i + 1) (by omega) (by omega) (fun s hs => ?_), q2, St.get_push_self]
                obtain ⟨_, _, _, _, _, _, _, _, _, _, _, k7, _⟩ := d.store hs
                have his : i + 1 ≤ s := by
                  by_cases q : i + 1 ≤ s
                  · exact q
                  · have := (d.mono (show s ≤ i by omega) (Nat.le_of_lt hlt)).next
                    omega
                refine ⟨his, ?_⟩
                by_cases ql : listed.getD s false = true
                · obtain ⟨L, loc, qh⟩ := I.hit s _ hs ql
                  rw [I.keys i hlt hun _ L (Nat.le_refl _) (by omega)] at qh
                  cases qh
                · simpa using ql
            refine run_sim d.cs hXrel hXwf (oper_ok hokO) hops (fun b L h1 h2 => I.keys i hlt hun b L (by omega) (by rw [q1]; have h2' : b < X.next + 1 := h2; omega)) hr fun ρ' cv w' hv st => ?_
            obtain ⟨c1, c2⟩ := combine I.step (by show X.next ≤ X.low; omega) st hag (by show X.next + 1 ≤ (T ops.size).next; omega) hm0
            refine hagain ρ' v cv w' st.ext hv he (by rw [hsc]; exact c1) (fun b L loc h1 h2 => ?_) (fun b hb => by rw [htg] at hb; cases hb)
            have := c2 b L loc h1 h2
            have h3 : b < X.next + 1 := this.2
            exact ⟨by omega, by omega⟩
        · rename_i hw
          unfold astep at htm
          rw [if_neg hw] at htm
          simp only [Option.some.injEq, Prod.mk.injEq] at htm
          exact hagain ρ undef undef w (Ren.le_refl ρ) (vr_undef ρ) htm.1.symm (by rw [hsc]; exact I.step) (fun b L loc h1 h2 => by rw [h1] at h2; cases h2) (fun b hb => by rw [htg] at hb; cases hb)
end
end Go.Proofs.YtdmbgbennlnpcaaDoorAbs
namespace Go.Proofs.YtdmbgbennlnpcaaDoorAbs
set_option linter.unusedVariables false
set_option linter.unusedSimpArgs false
section
variable {P : Program} {call : CallF}
theorem draw_sim (hc : CallSim P call) (hm : P.follows .mixedOrders = true) {id : Nat} {ops : Array Oper} {N : Nat} {ρ : Ren} {S S' : St} {w : World} {e e' : Env} {a : Act}
    (hok : ∀ o ∈ ops.toList, okOper P N o = true) (hd : drawOk ops = true) (h : Rel P ρ S w) (hwf : S.WF) (he : EnvR ρ e a) (hN : a.tmps.size = N) (hdf : a.defers = []) (hf : Fresh ρ S S')
    (hr : aops P call ops ops.toList (flagsOf ops) e S = some (e', S')) : (Code.region id ops true).wp P (Post P N ρ S w .normal e' S') a w := by
  obtain ⟨E, T, h1, h2, h3, h4, h5⟩ := aops_trace ops.toList (flagsOf ops) hr
  subst h1 h2 h3 h4
  have d : Draw P call ops E T N := ⟨hc, hok, hd, fun k o ho => h5 k o (by simpa using ho), hwf⟩
  refine wp_region_any hm ?_
  have hlen : ops.toList.length = ops.size := by simp
  rw [hlen] at hf
  -- the first barrier
  have hex : ∀ q k, q + k = ops.size → ∃ m', k ≤ m' ∧ m' ≤ ops.size ∧ (m' = ops.size ∨ barB ops (ancs ops.toList []) m' = true) ∧ ∀ j, k ≤ j → j < m' → barB ops (ancs ops.toList []) j = false := by
    intro q
    induction q with
    | zero => intro k hk; exact ⟨k, Nat.le_refl _, by omega, .inl (by omega), fun j h1 h2 => by omega⟩
    | succ q ihq =>
      intro k hk
      cases hb : barB ops (ancs ops.toList []) k with
      | true => exact ⟨k, Nat.le_refl _, by omega, .inr hb, fun j h1 h2 => by omega⟩
      | false =>
        obtain ⟨m', h1, h2, h3, h4⟩ := ihq (k + 1) (by omega)
        refine ⟨m', by omega, h2, h3, fun j g1 g2 => ?_⟩
        by_cases e : j = k
        · subst e; exact hb
        · exact h4 j (by omega) g2
  obtain ⟨m, g1, g2, g3, g4⟩ := hex ops.size 0 (by omega)
  have hun : ∀ i, (Array.replicate ops.size false).getD i false = false := fun i => by
    simp only [Array.getD_eq_getD_getElem?, Array.getElem?_replicate]
    split <;> rfl
  have hcnt : ∀ k, k ≤ ops.size → cnt k (Array.replicate ops.size false) = k := by
    intro k
    induction k with
    | zero => intro _; rfl
    | succ k ih => intro hk; rw [cnt, hun, ih (by omega)]; simp
  have hTX : ∀ k t, TX ops E (Array.replicate ops.size false) k t = (E 0).get t := by
    intro k t
    induction k with
    | zero => rfl
    | succ k ih => rw [TX, hun, if_neg (by simp)]; exact ih
  have hmono := d.mono g1 g2
  have hst : Step P ρ (T 0) w ρ (T m) { w with drawn := w.drawn + 1 } := by
    refine ⟨Ren.le_refl ρ, ⟨rfl, rfl, rfl⟩, (h.same (w' := { w with drawn := w.drawn + 1 }) (S' := T 0) rfl rfl).lift fun b L loc blk k g => ?_, Nat.le_refl _, hmono.next, hmono.low, fun b L loc h1 h2 => (by rw [h1] at h2; cases h2), fun _ _ _ _ _ _ => rfl⟩
    by_cases q : b < (T 0).next
    · rw [← d.agree g1 g2 g4 b q]; exact g
    · by_cases q2 : b < (T m).next
      · rw [hf b L (by omega) (Nat.lt_of_lt_of_le q2 (d.mono g2 (Nat.le_refl _)).next)] at k
        cases k
      · rw [d.wfk g2 b (by omega)] at g
        cases g
  refine draw_all d hf (Q := Post P N ρ (T 0) w .normal (E ops.toList.length) (T ops.toList.length)) ?_ ops.size _ ρ m a _ ⟨by simp, hcnt _ (Nat.le_refl _), fun i j _ hj => (by rw [hun] at hj; cases hj), g2, ?_, fun i hi hb => (by rw [g4 i (Nat.zero_le i) hi] at hb; cases hb), hst, ?_, fun t => ?_, hN, hdf⟩
  · intro ρ' a' w' q1 q2 q3 q4
    exact ⟨rfl, q3, q2, ρ', by rw [hlen]; exact q1, by rw [hlen]; exact q4⟩
  · exact g3.imp (fun x => x) fun hb => ⟨hb, hun m⟩
  · intro k hk _ b L hb1 hb2
    have := (d.mono (Nat.zero_le k) (by omega)).next
    have := (d.mono (show k + 1 ≤ ops.size by omega) (Nat.le_refl _)).next
    exact hf b L (by omega) (by omega)
  · rw [hTX]; exact he t
theorem soft_sim (hc : CallSim P call) (hm : P.follows .mixedOrders = true) {id : Nat} {ops : Array Oper} {N : Nat} {ρ : Ren} {S S' : St} {w : World} {e e' : Env} {a : Act}
    (hok : ∀ o ∈ ops.toList, okOper P N o = true) (hd : drawOk ops = true) (hs : softB ops = true) (hsep : sepB ops e' = true) (h : Rel P ρ S w) (hwf : S.WF) (he : EnvR ρ e a) (hN : a.tmps.size = N) (hdf : a.defers = []) (hf : Fresh ρ S S')
    (hr : aops P call ops ops.toList (softFl ops) e S = some (e', S')) : (Code.region id ops true).wp P (Post P N ρ S w .normal e' S') a w := by
  obtain ⟨E, T, h1, h2, h3, h4, h5⟩ := aops_trace ops.toList (softFl ops) hr
  subst h1 h2 h3 h4
  have hlen : ops.toList.length = ops.size := by simp
  rw [hlen] at hsep hf
  unfold softB at hs
  rw [Bool.and_eq_true] at hs
  have hone : ∀ k, k < ops.size → softOne ops k = true := fun k hk => List.all_eq_true.1 hs.2 k (List.mem_range.2 hk)
  have hkind : ∀ (k : Nat) (o : Oper), ops[k]? = some o → isP o.op = true ∨ isLd o.op = true ∨ isAl o.op = true ∨ (isSt o.op = true ∧ o.guard = none) := fun k o ho => by
    have := hone k (Array.getElem?_eq_some_iff.1 ho).1
    unfold softOne at this
    simp only [ho, Bool.and_eq_true, Bool.or_eq_true, Option.isNone_iff_eq_none] at this
    rcases this.1 with ((q | q) | q) | q
    · exact .inl q
    · exact .inr (.inl q)
    · exact .inr (.inr (.inl q))
    · exact .inr (.inr (.inr q))
  have hnoW : ∀ (k : Nat) (o : Oper) (x : Tmp), ops[k]? = some o → adr o.op = some x → ∀ j : Nat, k ≤ j → (ops[j]?).bind (·.dst) ≠ some x := fun k o x ho hx j hj => by
    have := hone k (Array.getElem?_eq_some_iff.1 ho).1
    unfold softOne at this
    simp only [ho, hx, Bool.and_eq_true, List.all_eq_true] at this
    by_cases hjs : j < ops.size
    · have := this.2 j (List.mem_range.2 hjs)
      rw [Bool.or_eq_true, decide_eq_true_eq] at this
      rcases this with q | q
      · omega
      · simpa using q
    · rw [Array.getElem?_eq_none (by omega)]; simp
  have hfl : ∀ (k : Nat) (o : Oper), ops[k]? = some o → (softFl ops).getD k false = !isSt o.op := fun k o ho => by
    unfold softFl
    rw [List.getD_eq_getElem?_getD, List.getElem?_map, List.getElem?_range (Array.getElem?_eq_some_iff.1 ho).1]
    simp only [Option.map_some, Option.getD_some, stAt, ho]
  have hsp : ∀ (k : Nat) (o : Oper) (x : Tmp) (s : Nat) (os : Oper) (y : Tmp), ops[k]? = some o → ops[s]? = some os → isSt os.op = true → k ≠ s → adr o.op = some x → adr os.op = some y → blkV ((E ops.size).get x) ≠ blkV ((E ops.size).get y) := fun k o x s os y ho hos hs' hks hx hy => by
    unfold sepB at hsep
    have h1 := List.all_eq_true.1 hsep s (List.mem_range.2 (Array.getElem?_eq_some_iff.1 hos).1)
    have h2 : stAt ops s = true := by unfold stAt; rw [hos]; exact hs'
    rw [h2, Bool.not_true, Bool.false_or] at h1
    have h3 := List.all_eq_true.1 h1 k (List.mem_range.2 (Array.getElem?_eq_some_iff.1 ho).1)
    have hb : (k == s) = false := by simpa using hks
    rw [hb, Bool.false_or] at h3
    have e1 : adrAt ops k = some x := by unfold adrAt; rw [ho]; exact hx
    have e2 : adrAt ops s = some y := by unfold adrAt; rw [hos]; exact hy
    rw [e1, e2] at h3
    simpa using h3
  have d : DrawS P call ops E T N := ⟨hc, hok, hd, fun k o ho => by
    have := h5 k o (by simpa using ho)
    rwa [hfl k o ho] at this, hwf, hkind, hnoW, hsp⟩
  refine wp_region_any hm ?_
  have hun : ∀ i, (Array.replicate ops.size false).getD i false = false := fun i => by
    simp only [Array.getD_eq_getD_getElem?, Array.getElem?_replicate]
    split <;> rfl
  have hcnt : ∀ k, k ≤ ops.size → cnt k (Array.replicate ops.size false) = k := by
    intro k
    induction k with
    | zero => intro _; rfl
    | succ k ih => intro hk; rw [cnt, hun, ih (by omega)]; simp
  have hTX : ∀ k t, TX ops E (Array.replicate ops.size false) k t = (E 0).get t := by
    intro k t
    induction k with
    | zero => rfl
    | succ k ih => rw [TX, hun, if_neg (by simp)]; exact ih
  have hmono := d.mono (Nat.zero_le ops.size) (Nat.le_refl _)
  have hst0 : Step P ρ (T 0) w ρ (SC ops E T (Array.replicate ops.size false)) { w with drawn := w.drawn + 1 } := by
    refine ⟨Ren.le_refl ρ, ⟨rfl, rfl, rfl⟩, (h.same (w' := { w with drawn := w.drawn + 1 }) (S' := T 0) rfl rfl).lift fun b L loc blk k g => ?_, Nat.le_refl _, hmono.next, hmono.low, fun b L loc h1 h2 => (by rw [h1] at h2; cases h2), fun _ _ _ _ _ _ => rfl⟩
    by_cases q : b < (T 0).next
    · rw [← d.sc_at (Nat.zero_le _) q (fun s _ => ⟨Nat.zero_le _, hun s⟩)]; exact g
    · by_cases q2 : b < (T ops.size).next
      · rw [hf b L (by omega) q2] at k
        cases k
      · rw [d.sc_wf _ b (Nat.le_of_not_lt q2)] at g
        cases g
  refine soft_all d hf (Q := Post P N ρ (T 0) w .normal (E ops.toList.length) (T ops.toList.length)) (ρ0 := ρ) (w0 := w) ?_ ops.size _ ρ a _ ⟨by simp, hcnt _ (Nat.le_refl _), fun i j _ hj => (by rw [hun] at hj; cases hj), hst0, ?_, fun s b _ hl => (by rw [hun] at hl; cases hl), fun t => ?_, hN, hdf⟩
  · intro ρ' a' w' q1 q2 q3 q4
    exact ⟨rfl, q3, q2, ρ', by rw [hlen]; exact q1, by rw [hlen]; exact q4⟩
  · intro k hk _ b L hb1 hb2
    have := (d.mono (Nat.zero_le k) (by omega)).next
    have := (d.mono (show k + 1 ≤ ops.size by omega) (Nat.le_refl _)).next
    exact hf b L (by omega) (by omega)
  · rw [hTX]; exact he t
def rFl (ops : Array Oper) : Bool → List Bool
  | false => []
  | true => if softB ops = true then softFl ops else flagsOf ops
def rOk (ops : Array Oper) : Bool → Env → Bool
  | false, _ => true
  | true, e => !softB ops || sepB ops e
inductive AExit where
  | normal
  | ret
  | exit (id : Nat)
def AExit.toExit : AExit → Exit
  | .normal => .normal
  | .ret => .ret
  | .exit id => .exit id
def aloop (body : Env → St → Option (AExit × Env × St)) : Nat → Env → St → Option (AExit × Env × St)
  | 0, _, _ => none
  | k + 1, e, S =>
    match body e S with
    | some (.normal, e', S') => aloop body k e' S'
    | r => r
def acode (P : Program) (call : CallF) (fuel : Nat) : Code → Env → St → Option (AExit × Env × St)
  | .skip, e, S => some (.normal, e, S)
  | .region _ ops draw, e, S =>
    match aops P call ops ops.toList (rFl ops draw) e S with
    | some (e', S') => if rOk ops draw e' = true then some (.normal, e', S') else none
    | none => none
  | .seq a b, e, S =>
    match acode P call fuel a e S with
    | some (.normal, e', S') => acode P call fuel b e' S'
    | r => r
  | .cond c x y, e, S =>
    match e.ev c with
    | .bool true => acode P call fuel x e S
    | .bool false => acode P call fuel y e S
    | _ => none
  | .block id c, e, S =>
    match acode P call fuel c e S with
    | some (.exit id', e', S') => if id' = id then some (.normal, e', S') else some (.exit id', e', S')
    | r => r
  | .loop c, e, S => aloop (acode P call fuel c) fuel e S
  | .scope c, e, S => acode P call fuel c e S
  | .label _, e, S => some (.normal, e, S)
  | .exit id, e, S => some (.exit id, e, S)
  | .ret, e, S => some (.ret, e, S)
  | _, _, _ => none
def okCode (P : Program) (N : Nat) : Code → Bool
  | .skip => true
  | .region _ ops draw => ops.toList.all (okOper P N) && (!draw || drawOk ops)
  | .seq a b => okCode P N a && okCode P N b
  | .cond c x y => okOpnd P c && okCode P N x && okCode P N y
  | .block _ c => okCode P N c
  | .loop c => okCode P N c
  | .scope c => okCode P N c
  | .label _ => true
  | .exit _ => true
  | .ret => true
  | _ => false
theorem aloop_mono {body : Env → St → Option (AExit × Env × St)} (hb : ∀ e S x e' S', body e S = some (x, e', S') → Mono S S') : ∀ (k : Nat) {e : Env} {S : St} {x : AExit} {e' : Env} {S' : St}, aloop body k e S = some (x, e', S') → Mono S S'
  | 0, _, _, _, _, _, h => by cases h
  | k + 1, e, S, x, e', S', h => by
    unfold aloop at h
    split at h
    · rename_i e1 S1 h1
      exact (hb _ _ _ _ _ h1).trans (aloop_mono hb k h)
    · exact hb _ _ _ _ _ h
theorem acode_mono (hc : CallSim P call) {fuel : Nat} : ∀ (c : Code) {e : Env} {S : St} {x : AExit} {e' : Env} {S' : St}, acode P call fuel c e S = some (x, e', S') → Mono S S' := by
  intro c
  induction c with
  | skip => intro e S x e' S' h; cases h; exact Mono.refl _
  | region id ops draw =>
    intro e S x e' S' h
    unfold acode at h
    split at h
    · rename_i hst
      split at h
      · cases h; exact aops_mono hc _ _ hst
      · cases h
    · cases h
  | seq a b iha ihb =>
    intro e S x e' S' h
    unfold acode at h
    split at h
    · rename_i h1
      exact (iha h1).trans (ihb h)
    · exact iha h
  | cond c x y ihx ihy =>
    intro e S z e' S' h
    unfold acode at h
    split at h
    · exact ihx h
    · exact ihy h
    · cases h
  | block id c ih =>
    intro e S x e' S' h
    unfold acode at h
    split at h
    · rename_i h1
      split at h <;> (cases h; exact ih h1)
    · exact ih h
  | loop c ih =>
    intro e S x e' S' h
    unfold acode at h
    exact aloop_mono (fun e S x e' S' h => ih h) fuel h
  | exit id => intro e S x e' S' h; cases h; exact Mono.refl _
  | scope c ih =>
    intro e S x e' S' h
    unfold acode at h
    exact ih h
  | label l => intro e S x e' S' h; cases h; exact Mono.refl _
  | ret => intro e S x e' S' h; cases h; exact Mono.refl _
  | _ => intro e S x e' S' h; simp [acode] at h
theorem post_trans {N : Nat} {ρ ρ1 : Ren} {S S1 S' : St} {w w1 : World} {y : Exit} {e' : Env} (st : Step P ρ S w ρ1 S1 w1) (hf : Fresh ρ S S1) {y' : Exit} {a' : Act} {w' : World} (h : Post P N ρ1 S1 w1 y e' S' y' a' w') : Post P N ρ S w y e' S' y' a' w' := by
  obtain ⟨q1, q2, q3, ρ2, q4, q5⟩ := h
  exact ⟨q1, q2, q3, ρ2, q4, st.trans hf q5⟩
theorem loop_sim {N : Nat} {c : Code} {body : Env → St → Option (AExit × Env × St)} (hbm : ∀ e S x e' S', body e S = some (x, e', S') → Mono S S')
    (hb : ∀ {ρ : Ren} {S S' : St} {w : World} {e e' : Env} {a : Act} {x : AExit}, Rel P ρ S w → S.WF → EnvR ρ e a → a.tmps.size = N → a.defers = [] → Fresh ρ S S' → body e S = some (x, e', S') → c.wp P (Post P N ρ S w x.toExit e' S') a w) :
    ∀ (k : Nat) {ρ : Ren} {S S' : St} {w : World} {e e' : Env} {a : Act} {x : AExit}, Rel P ρ S w → S.WF → EnvR ρ e a → a.tmps.size = N → a.defers = [] → Fresh ρ S S' → aloop body k e S = some (x, e', S') →
      ∀ (b : Frame) (kk : List Item) (cs : List Frame), ∃ y a' w', Post P N ρ S w x.toExit e' S' y a' w' ∧ Arrives P (lone (b.at a (.code c :: .inLoop c :: kk)) cs w) b kk cs y a' w'
  | 0, _, _, _, _, _, _, _, _, _, _, _, _, _, _, h => by cases h
  | k + 1, ρ, S, S', w, e, e', a, x, h, hwf, he, hN, hd, hf, hr => by
    intro b kk cs
    unfold aloop at hr
    split at hr
    · rename_i e1 S1 h1
      have m1 := hbm _ _ _ _ _ h1
      have m2 := aloop_mono hbm k hr
      obtain ⟨y, a1, w1, ⟨q1, q2, q3, ρ1, q4, q5⟩, harr⟩ := hb h hwf he hN hd (hf.left m2.next) h1 b (.inLoop c :: kk) cs
      cases q1
      obtain ⟨y2, a2, w2, hp, harr2⟩ := loop_sim hbm hb k q5.rel (m1.wf hwf) q4 q3 q2 (hf.right q5) hr b kk cs
      exact ⟨y2, a2, w2, post_trans q5 (hf.left m2.next) hp, .of_steps (Steps.trans harr (.one step_inLoop)) harr2⟩
    · rename_i hnn
      obtain ⟨y, a1, w1, hp, harr⟩ := hb h hwf he hN hd hf hr b (.inLoop c :: kk) cs
      refine ⟨y, a1, w1, hp, ?_⟩
      obtain ⟨q1, _⟩ := hp
      have hy : y ≠ .normal := by
        rw [q1]
        cases x with
        | normal => exact absurd hr (hnn e' S')
        | ret => simp [AExit.toExit]
        | exit id => simp [AExit.toExit]
      exact .pass (x := .inLoop c) rfl (fun _ _ => .inl hy) harr
theorem acode_sim (hc : CallSim P call) (hm : P.follows .mixedOrders = true) {N fuel : Nat} : ∀ (c : Code), okCode P N c = true → ∀ {ρ : Ren} {S S' : St} {w : World} {e e' : Env} {a : Act} {x : AExit}, Rel P ρ S w → S.WF → EnvR ρ e a → a.tmps.size = N → a.defers = [] → Fresh ρ S S' →
    acode P call fuel c e S = some (x, e', S') → c.wp P (Post P N ρ S w x.toExit e' S') a w := by
  intro c
  induction c with
  | skip =>
    intro hok ρ S S' w e e' a x h hwf he hN hd hf hr
    cases hr
    exact wp_skip ⟨rfl, hd, hN, ρ, he, Step.refl h⟩
  | region id ops draw =>
    intro hok ρ S S' w e e' a x h hwf he hN hd hf hr
    unfold okCode at hok
    rw [Bool.and_eq_true, List.all_eq_true] at hok
    unfold acode at hr
    split at hr
    case h_2 => cases hr
    rename_i e1 S1 hst
    split at hr
    case isFalse => cases hr
    rename_i hrok
    cases hr
    cases draw with
    | false => exact wp_region_list (aops_sim hc ops.toList _ hok.1 h hwf he hN hd hf hst)
    | true =>
      have hd2 : drawOk ops = true := by simpa using hok.2
      simp only [rFl] at hst
      simp only [rOk] at hrok
      by_cases hsb : softB ops = true
      · rw [if_pos hsb] at hst
        rw [hsb, Bool.not_true, Bool.false_or] at hrok
        exact soft_sim hc hm hok.1 hd2 hsb hrok h hwf he hN hd hf hst
      · rw [if_neg hsb] at hst
        exact draw_sim hc hm hok.1 hd2 h hwf he hN hd hf hst
  | seq c1 c2 ih1 ih2 =>
    intro hok ρ S S' w e e' a x h hwf he hN hd hf hr
    unfold okCode at hok
    rw [Bool.and_eq_true] at hok
    unfold acode at hr
    split at hr
    · rename_i e1 S1 h1
      have m1 := acode_mono hc c1 h1
      have m2 := acode_mono hc c2 hr
      refine wp_seq (wp_mono (ih1 hok.1 h hwf he hN hd (hf.left m2.next) h1) ?_)
      rintro y a1 w1 ⟨q1, q2, q3, ρ1, q4, q5⟩
      cases q1
      exact wp_mono (ih2 hok.2 q5.rel (m1.wf hwf) q4 q3 q2 (hf.right q5) hr) fun y a w hp => post_trans q5 (hf.left m2.next) hp
    · rename_i hnn
      refine wp_seq (wp_mono (ih1 hok.1 h hwf he hN hd hf hr) ?_)
      intro y a1 w1 hp
      have hy : y ≠ .normal := by
        rw [hp.1]
        cases x with
        | normal => exact absurd hr (hnn e' S')
        | ret => simp [AExit.toExit]
        | exit id => simp [AExit.toExit]
      cases y <;> first | exact absurd rfl hy | exact hp
  | cond c x y ihx ihy =>
    intro hok ρ S S' w e e' a z h hwf he hN hd hf hr
    unfold okCode at hok
    rw [Bool.and_eq_true, Bool.and_eq_true] at hok
    unfold acode at hr
    have hcv : VR ρ (e.ev c) (a.eval c) := opnd_rel h hok.1.1 fun t _ => he t
    split at hr
    · rename_i hb
      rw [hb] at hcv
      exact wp_cond_true (hcv.scalar_eq rfl) (ihx hok.1.2 h hwf he hN hd hf hr)
    · rename_i hb
      rw [hb] at hcv
      exact wp_cond_false (hcv.scalar_eq rfl) (ihy hok.2 h hwf he hN hd hf hr)
    · cases hr
  | block id c ih =>
    intro hok ρ S S' w e e' a x h hwf he hN hd hf hr
    unfold acode at hr
    split at hr
    · rename_i id' e1 S1 h1
      refine wp_block ?_
      split at hr
      · rename_i hid
        cases hr
        refine wp_mono (ih hok h hwf he hN hd hf h1) ?_
        rintro y a1 w1 ⟨q1, q2⟩
        subst q1
        simp only [AExit.toExit, Exit.inBlock, hid, if_true]
        exact ⟨rfl, q2⟩
      · rename_i hid
        cases hr
        refine wp_mono (ih hok h hwf he hN hd hf h1) ?_
        rintro y a1 w1 ⟨q1, q2⟩
        subst q1
        simp only [AExit.toExit, Exit.inBlock, hid, if_false]
        exact ⟨rfl, q2⟩
    · rename_i hnn
      refine wp_block (wp_mono (ih hok h hwf he hN hd hf hr) ?_)
      rintro y a1 w1 hp
      have hy : ∀ i, y ≠ .exit i := by
        intro i
        rw [hp.1]
        cases x with
        | normal => simp [AExit.toExit]
        | ret => simp [AExit.toExit]
        | exit id => exact absurd hr (hnn id e' S')
      cases y <;> first | exact hp | exact absurd rfl (hy _)
  | loop c ih =>
    intro hok ρ S S' w e e' a x h hwf he hN hd hf hr
    unfold acode at hr
    intro b kk cs
    obtain ⟨y, a', w', hp, harr⟩ := loop_sim (fun e S x e' S' h => acode_mono hc c h) (fun h hwf he hN hd hf hr => ih hok h hwf he hN hd hf hr) fuel h hwf he hN hd hf hr b kk cs
    exact ⟨y, a', w', hp, .of_steps (.one step_loop) harr⟩
  | scope c ih =>
    intro hok ρ S S' w e e' a x h hwf he hN hd hf hr
    unfold acode at hr
    refine wp_scope_straight (wp_mono (ih hok h hwf he hN hd hf hr) ?_)
    intro y a1 w1 hp
    have hy : ∀ l, y ≠ .goto l := fun l => by
      rw [hp.1]
      cases x <;> simp [AExit.toExit]
    cases y <;> first | exact hp | exact absurd rfl (hy _)
  | label l =>
    intro hok ρ S S' w e e' a x h hwf he hN hd hf hr
    cases hr
    exact wp_label ⟨rfl, hd, hN, ρ, he, Step.refl h⟩
  | exit id =>
    intro hok ρ S S' w e e' a x h hwf he hN hd hf hr
    cases hr
    exact wp_exit ⟨rfl, hd, hN, ρ, he, Step.refl h⟩
  | ret =>
    intro hok ρ S S' w e e' a x h hwf he hN hd hf hr
    cases hr
    exact wp_ret ⟨rfl, hd, hN, ρ, he, Step.refl h⟩
  | _ => intro hok; simp [okCode] at hok
end
end Go.Proofs.YtdmbgbennlnpcaaDoorAbs
namespace Go.Proofs.YtdmbgbennlnpcaaDoorAbs
set_option linter.unusedVariables false
set_option linter.unusedSimpArgs false
def aresL (P : Program) (S : St) (e : Env) : List ResultVar → Option (List Value)
  | [] => some []
  | .tmp t :: r => match aresL P S e r with
    | some vs => some (e.get t :: vs)
    | none => none
  | .cell a t :: r => match aload P S t (e.get a), aresL P S e r with
    | some v, some vs => some (v :: vs)
    | _, _ => none
def pack : List Value → Value
  | [v] => v
  | vs => .tuple vs.toArray
abbrev Prims := Nat → FuncId → Option (Array Value → St → Option (Value × St))
def acall (P : Program) (I : Prims) : Nat → CallF
  | 0 => fun _ _ _ => none
  | k + 1 => fun f args S =>
    match I k f with
    | some p => p args S
    | none =>
      match P.funcs[f]? with
      | none => none
      | some fn =>
        match fn.body with
        | none => none
        | some c =>
          if okCode P (max args.size fn.ntmps) c = true then
            match acode P (acall P I k) k c ⟨argEnv 0 args.toList⟩ S with
            | some (.normal, e, S') => match aresL P S' e fn.results.toList with
              | some vs => some (pack vs, S')
              | none => none
            | some (.ret, e, S') => match aresL P S' e fn.results.toList with
              | some vs => some (pack vs, S')
              | none => none
            | _ => none
          else none
structure PrimSim (P : Program) (I : Prims) : Prop where
  mono : ∀ k f p, I k f = some p → ∀ xs S v S', p xs S = some (v, S') → Mono S S'
  sim : ∀ k f p, I k f = some p → ∀ xs S v S', p xs S = some (v, S') → ∀ (ρ : Ren) (w : World) (ys : Array Value), Rel P ρ S w → S.WF → VRL ρ xs.toList ys.toList → Fresh ρ S S' →
    Calls P f ys w fun e w' => ∃ ρ' cv, e = .returned cv ∧ VR ρ' v cv ∧ Step P ρ S w ρ' S' w'
section
variable {P : Program} {I : Prims}
theorem lk_args : ∀ (vs : List Value) (k t : Nat), lk (argEnv k vs) t = if k ≤ t then (vs[t - k]?).getD undef else undef
  | [], k, t => by simp [argEnv, lk]
  | v :: vs, k, t => by
    unfold argEnv
    unfold lk
    by_cases e : t = k
    · subst e; simp
    · rw [if_neg e, lk_args vs (k + 1) t]
      by_cases h : k ≤ t
      · rw [if_pos h, if_pos (by omega), show t - k = (t - (k + 1)) + 1 by omega]
        simp
      · rw [if_neg h, if_neg (by omega)]
theorem args_env {ρ : Ren} {xs ys : Array Value} (h : VRL ρ xs.toList ys.toList) (n : Nat) : EnvR ρ ⟨argEnv 0 xs.toList⟩ { tmps := ys ++ Array.replicate n undef, defers := [] } := by
  intro t
  simp only [Env.get, lk_args, Nat.zero_le, if_true, Nat.sub_zero, Array.getD_eq_getD_getElem?]
  have hl : xs.size = ys.size := by simpa using h.1
  by_cases ht : t < xs.size
  · have e1 : xs.toList[t]? = some (xs[t]) := by simp [ht]
    obtain ⟨v', e2, k⟩ := h.get e1
    have e3 : ys[t]? = some v' := by simpa using e2
    rw [e1, Array.getElem?_append_left (by omega), e3]
    exact k
  · have e1 : xs.toList[t]? = none := by simp; omega
    rw [e1, Array.getElem?_append_right (by omega), Array.getElem?_replicate]
    split <;> exact vr_undef ρ
theorem load_run {ρ : Ren} {S : St} {w : World} {t : TypeId} {p p' v : Value} (h : Rel P ρ S w) (hp : VR ρ p p') (hl : aload P S t p = some v) : ∃ a' v', p' = .pointer (some a') ∧ (loadVar t a').run P w = .ok v' w ∧ VR ρ v v' := by
  obtain ⟨v', hr, hv⟩ := sim_load h hp hl
  unfold aload at hl
  split at hl
  · obtain ⟨L, loc, A, ha, h1, h2, h3, rfl⟩ := hp.ptr_inv
    refine ⟨_, v', rfl, ?_, hv⟩
    simpa only [Instr.loadAt, Instr.sureAddr, Sem.run_bind, Sem.run_pure, Result.andThen_ok] using hr
  · cases hl
theorem res_sim {ρ : Ren} {S : St} {w : World} {e : Env} {a : Act} {f : ResultVar → Sem Value} (hf1 : ∀ t, f (.tmp t) = pure (a.tmps.getD t undef)) (hf2 : ∀ q t, f (.cell q t) = do loadVar t (← asAddr (a.tmps.getD q undef)))
    (h : Rel P ρ S w) (he : EnvR ρ e a) : ∀ (l : List ResultVar) {vs : List Value}, aresL P S e l = some vs → ∃ ws, (l.mapM f).run P w = .ok ws w ∧ VRL ρ vs ws
  | [], vs, hr => by
    cases hr
    exact ⟨[], by simp [Sem.run_pure], VRL.nil ρ⟩
  | .tmp t :: r, vs, hr => by
    unfold aresL at hr
    split at hr
    case h_2 => cases hr
    rename_i us hu
    cases hr
    obtain ⟨ws, k1, k2⟩ := res_sim hf1 hf2 h he r hu
    refine ⟨_ :: ws, ?_, VRL.cons (he t) k2⟩
    simp only [List.mapM_cons, Sem.run_bind, hf1, Sem.run_pure, Result.andThen_ok, k1]
  | .cell q t :: r, vs, hr => by
    unfold aresL at hr
    split at hr
    case h_2 => cases hr
    rename_i v us hv hu
    cases hr
    obtain ⟨ws, k1, k2⟩ := res_sim hf1 hf2 h he r hu
    obtain ⟨a', v', e1, e2, e3⟩ := load_run h (he q) hv
    refine ⟨v' :: ws, ?_, VRL.cons e3 k2⟩
    have hq : (asAddr (a.tmps.getD q undef)).run P w = .ok a' w := by rw [e1]; rfl
    simp only [List.mapM_cons, Sem.run_bind, hf2, hq, Sem.run_pure, Result.andThen_ok, e2, k1]
theorem results_sim {ρ : Ren} {S : St} {w : World} {e : Env} {a : Act} {fn : Func} {vs : List Value} (h : Rel P ρ S w) (he : EnvR ρ e a) (hr : aresL P S e fn.results.toList = some vs) :
    ∃ cv, (results fn a.tmps).run P w = .ok cv w ∧ VR ρ (pack vs) cv := by
  have e0 : ∀ X : Sem (List Value), (List.toArray <$> X : Sem (Array Value)) = X >>= fun a => pure a.toArray := fun _ => rfl
  unfold results
  rw [Array.mapM_eq_mapM_toList, e0]
  generalize hfe : (fun (x : ResultVar) => (match x with | .tmp t => pure (a.tmps.getD t undef) | .cell q t => do loadVar t (← asAddr (a.tmps.getD q undef)) : Sem Value)) = f
  obtain ⟨ws, k1, k2⟩ := res_sim (f := f) (fun t => by rw [← hfe]) (fun q t => by rw [← hfe]) h he _ hr
  refine ⟨if h : ws.toArray.size = 1 then ws.toArray[0] else .tuple ws.toArray, ?_, ?_⟩
  · simp only [Sem.run_bind, k1, Result.andThen_ok, Sem.run_pure]
  · match vs, ws, k2 with
    | [], ws, k2 =>
      obtain rfl := k2.of_nil
      simp only [pack]
      exact VR.tuple' (VRL.nil ρ)
    | [v], ws, k2 =>
      obtain ⟨y, ys, rfl, h1, h2⟩ := k2.uncons
      obtain rfl := h2.of_nil
      simpa [pack] using h1
    | v :: u :: r, ws, k2 =>
      have hl := k2.1
      simp only [pack]
      rw [dif_neg (by simp; simp at hl; omega)]
      exact VR.tuple' (by simpa using k2)
theorem acall_sim (hI : PrimSim P I) (hm : P.follows .mixedOrders = true) : ∀ k, CallSim P (acall P I k)
  | 0 => ⟨fun f xs S v S' h => (by cases h), fun f xs S v S' h => (by cases h)⟩
  | k + 1 => by
    have ih := acall_sim hI hm k
    refine ⟨fun f xs S v S' h => ?_, fun f xs S v S' h ρ w ys hrel hwf hxs hf => ?_⟩
    · unfold acall at h
      split at h
      · exact hI.mono _ _ _ (by assumption) _ _ _ _ h
      · repeat' split at h
        all_goals first
          | (cases h; done)
          | (cases h; exact acode_mono ih _ (by assumption))
    · unfold acall at h
      split at h
      · exact hI.sim _ _ _ (by assumption) _ _ _ _ h ρ w ys hrel hwf hxs hf
      · split at h
        case h_1 => cases h
        rename_i fn hfn
        split at h
        case h_1 => cases h
        rename_i c hbody
        split at h
        case isFalse => cases h
        rename_i hok
        have hl : xs.size = ys.size := by simpa using hxs.1
        have hsz : (ys ++ Array.replicate (fn.ntmps - ys.size) undef).size = max xs.size fn.ntmps := by simp; omega
        have fin : ∀ {x : AExit} {e : Env} {S1 : St}, (x = .normal ∨ x = .ret) → acode P (acall P I k) k c ⟨argEnv 0 xs.toList⟩ S = some (x, e, S1) → (match aresL P S1 e fn.results.toList with | some vs => some (pack vs, S1) | none => none) = some (v, S') →
            Calls P f ys w fun e w' => ∃ ρ' cv, e = .returned cv ∧ VR ρ' v cv ∧ Step P ρ S w ρ' S' w' := by
          intro x e S1 hx hc hr
          split at hr
          case h_2 => cases hr
          rename_i vs hvs
          cases hr
          refine calls_of_wp hfn hbody (wp_mono (acode_sim ih hm c hok hrel hwf (args_env hxs _) hsz rfl hf hc) ?_)
          rintro y a' w' ⟨q1, q2, q3, ρ', q4, q5⟩
          obtain ⟨cv, r1, r2⟩ := results_sim q5.rel q4 hvs
          subst q1
          rcases hx with rfl | rfl
          · exact ⟨q2, cv, r1, ρ', cv, rfl, r2, q5⟩
          · exact ⟨q2, cv, r1, ρ', cv, rfl, r2, q5⟩
        split at h
        · rename_i e S1 hc
          exact fin (.inl rfl) hc h
        · rename_i e S1 hc
          exact fin (.inr rfl) hc h
        · cases h
theorem law_of_run (hI : PrimSim P I) (hm : P.follows .mixedOrders = true) {k f : Nat} {xs ys : Array Value} {S S' : St} {v : Value} {ρ : Ren} {w : World} (h : acall P I k f xs S = some (v, S')) (hs : scalar v = true)
    (hrel : Rel P ρ S w) (hwf : S.WF) (hxs : VRL ρ xs.toList ys.toList) (hf : ∀ b L, S.next ≤ b → ρ b L = none) (hlow : S.next ≤ S.low) (hth : ∀ b blk, S.get b = some blk → blk.own = false) :
    Calls P f ys w fun e w' => e = .returned v ∧ RowKit.Below w.heap.size w w' := by
  have hc := acall_sim hI hm k
  have hmono := hc.mono _ _ _ _ _ h
  refine (hc.sim _ _ _ _ _ h ρ w ys hrel hwf hxs (fun b L h1 _ => hf b L h1)).mono ?_
  rintro e w' ⟨ρ', cv, rfl, hv, st⟩
  refine ⟨by rw [hv.scalar_eq hs], st.env.1, st.env.2.1, st.env.2.2, st.hsz, fun B hB => ?_⟩
  exact st.keep S.next B (Nat.le_refl _) (hmono.theirs S.next (Nat.le_refl _) hlow fun b blk _ hg => hth b blk hg) hB fun b L loc _ _ h1 h2 => absurd h2 (Nat.not_lt_of_le h1)
end
end Go.Proofs.YtdmbgbennlnpcaaDoorAbs
namespace Go.Proofs.YtdmbgbennlnpcaaDoorAbs
set_option linter.unusedVariables false
set_option linter.unusedSimpArgs false
section
variable (P : Program) (I : Prims)
def C (f : FuncId) (xs : Array Value) (S : St) (Q : Value → St → Prop) : Prop := ∃ v S', (∃ k, ∀ k', k ≤ k' → acall P I k' f xs S = some (v, S')) ∧ Q v S'
def O (ops : Array Oper) : List Oper → List Bool → (Env → St → Prop) → Env → St → Prop
  | [], _, Q, e, S => Q e S
  | o :: r, fl, Q, e, S =>
    if wants ops o e = true then
      match fl.headD false with
      | false =>
        (match o.op with
        | .call ⟨.value f, args, _⟩ => ∃ g xs, acallee (e.ev f) (args.map e.ev) = some (g, xs) ∧ callable P g = true ∧ C P I g xs S fun v S' => O ops r fl.tail Q (e.putO o.dst v) S'
        | _ => ∃ v S', aop P e.ev o S = some (v, S') ∧ O ops r fl.tail Q (e.putO o.dst v) S')
      | true =>
        (match o.op with
        | .call ⟨.value f, args, _⟩ => ∃ g xs, acallee (e.ev f) (args.map e.ev) = some (g, xs) ∧ callable P g = true ∧ C P I g xs (S.withLow S.next) fun v S' => S.next ≤ S'.low ∧ O ops r fl.tail Q (e.putO o.dst v) (S'.withLow S.low)
        | _ => ∃ v S', aop P e.ev o (S.withLow S.next) = some (v, S') ∧ S.next ≤ S'.low ∧ O ops r fl.tail Q (e.putO o.dst v) (S'.withLow S.low))
    else O ops r fl.tail Q (e.putO o.dst undef) S
def rQ (ops : Array Oper) : Bool → (Env → St → Prop) → Env → St → Prop
  | false, R => R
  | true, R => fun e S => (softB ops = true → sepB ops e = true) ∧ R e S
theorem rQ_iff {ops : Array Oper} {d : Bool} {R : Env → St → Prop} {e : Env} {S : St} : rQ ops d R e S ↔ rOk ops d e = true ∧ R e S := by
  cases d with
  | false => simp [rQ, rOk]
  | true =>
    simp only [rQ, rOk, Bool.or_eq_true, Bool.not_eq_true']
    cases softB ops <;> simp
def then_ (n : Env → St → Prop) (Q : AExit → Env → St → Prop) : AExit → Env → St → Prop
  | .normal, e, S => n e S
  | x, e, S => Q x e S
def inBlock_ (id : Nat) (Q : AExit → Env → St → Prop) : AExit → Env → St → Prop
  | .exit id', e, S => if id' = id then Q .normal e S else Q (.exit id') e S
  | x, e, S => Q x e S
def rounds_ (W : (AExit → Env → St → Prop) → Env → St → Prop) (Q : AExit → Env → St → Prop) : Nat → Env → St → Prop
  | 0, _, _ => False
  | n + 1, e, S => W (then_ (rounds_ W Q n) Q) e S
def W : Code → (AExit → Env → St → Prop) → Env → St → Prop
  | .skip, Q, e, S => Q .normal e S
  | .region _ ops draw, Q, e, S => O P I ops ops.toList (rFl ops draw) (rQ ops draw (Q .normal)) e S
  | .seq a b, Q, e, S => W a (then_ (W b Q) Q) e S
  | .cond c x y, Q, e, S => ∃ t, e.ev c = .bool t ∧ if t = true then W x Q e S else W y Q e S
  | .block id c, Q, e, S => W c (inBlock_ id Q) e S
  | .loop c, Q, e, S => ∃ n, rounds_ (W c) Q n e S
  | .scope c, Q, e, S => W c Q e S
  | .label _, Q, e, S => Q .normal e S
  | .exit id, Q, e, S => Q (.exit id) e S
  | .ret, Q, e, S => Q .ret e S
  | _, _, _, _ => False
def Ev {α : Type} (f : Nat → Option α) (a : α) : Prop := ∃ k, ∀ k', k ≤ k' → f k' = some a
variable {P I}
theorem C.mono {f : FuncId} {xs : Array Value} {S : St} {Q Q' : Value → St → Prop} (h : C P I f xs S Q) (hq : ∀ v S', Q v S' → Q' v S') : C P I f xs S Q' :=
  let ⟨v, S', h1, h2⟩ := h; ⟨v, S', h1, hq v S' h2⟩
theorem O_sound {ops : Array Oper} : ∀ (l : List Oper) (fl : List Bool) {Q : Env → St → Prop} {e : Env} {S : St}, O P I ops l fl Q e S → ∃ e' S', Ev (fun k => aops P (acall P I k) ops l fl e S) (e', S') ∧ Q e' S'
  | [], fl, Q, e, S, h => ⟨e, S, ⟨0, fun _ _ => rfl⟩, h⟩
  | o :: r, fl, Q, e, S, h => by
    have go : ∀ (fb : Bool) (e1 : Env) (S1 : St), fl.headD false = fb → Ev (fun k => astep P (acall P I k) ops o fb e S) (e1, S1) → O P I ops r fl.tail Q e1 S1 → ∃ e' S', Ev (fun k => aops P (acall P I k) ops (o :: r) fl e S) (e', S') ∧ Q e' S' := by
      intro fb e1 S1 hfb hst hr
      obtain ⟨e', S', ⟨k2, h2⟩, hq⟩ := O_sound r fl.tail hr
      obtain ⟨k1, h1⟩ := hst
      refine ⟨e', S', ⟨max k1 k2, fun k' hk => ?_⟩, hq⟩
      simp only [aops]
      have h1' := h1 k' (by omega)
      have h2' := h2 k' (by omega)
      simp only at h1' h2'
      rw [hfb, h1']
      exact h2'
    unfold O at h
    split at h
    · rename_i hw
      split at h
      · rename_i hfb
        split at h
        · rename_i f args ts hop
          obtain ⟨g, xs, hcal, hcb, v, S', ⟨k, hk⟩, hq⟩ := h
          refine go false _ _ hfb ⟨k, fun k' hk' => ?_⟩ hq
          simp only [astep, hw, if_true, arun, hop, hcal, hcb, hk k' hk']
        · rename_i hop
          obtain ⟨v, S', ha, hq⟩ := h
          refine go false _ _ hfb ⟨0, fun k' _ => ?_⟩ hq
          have : arun P (acall P I k') e.ev o S = aop P e.ev o S := by
            unfold arun
            split
            · rename_i h2; exact absurd h2 (hop _ _ _)
            · rfl
          simp only [astep, hw, if_true, this, ha]
      · rename_i hfb
        split at h
        · rename_i f args ts hop
          obtain ⟨g, xs, hcal, hcb, v, S', ⟨k, hk⟩, hl, hq⟩ := h
          refine go true _ _ hfb ⟨k, fun k' hk' => ?_⟩ hq
          simp only [astep, hw, if_true, arun, hop, hcal, hcb, hk k' hk', hl]
        · rename_i hop
          obtain ⟨v, S', ha, hl, hq⟩ := h
          refine go true _ _ hfb ⟨0, fun k' _ => ?_⟩ hq
          have : arun P (acall P I k') e.ev o (S.withLow S.next) = aop P e.ev o (S.withLow S.next) := by
            unfold arun
            split
            · rename_i h2; exact absurd h2 (hop _ _ _)
            · rfl
          simp only [astep, hw, if_true, this, ha, hl]
    · rename_i hw
      refine go (fl.headD false) _ _ rfl ⟨0, fun k' _ => ?_⟩ h
      simp only [astep, hw, if_false]
      rfl
theorem W_sound : ∀ (c : Code) {Q : AExit → Env → St → Prop} {e : Env} {S : St}, W P I c Q e S → ∃ x e' S', Ev (fun k => acode P (acall P I k) k c e S) (x, e', S') ∧ Q x e' S' := by
  intro c
  induction c with
  | skip => intro Q e S h; exact ⟨.normal, e, S, ⟨0, fun _ _ => rfl⟩, h⟩
  | region id ops draw =>
    intro Q e S h
    obtain ⟨e', S', ⟨k, hk⟩, hq⟩ := O_sound _ _ h
    obtain ⟨hk1, hq⟩ := rQ_iff.1 hq
    exact ⟨.normal, e', S', ⟨k, fun k' hk' => by simp only [acode, hk k' hk', hk1, if_true]⟩, hq⟩
  | seq a b iha ihb =>
    intro Q e S h
    obtain ⟨x, e1, S1, ⟨k1, h1⟩, hq⟩ := iha h
    cases x with
    | normal =>
      obtain ⟨x2, e2, S2, ⟨k2, h2⟩, hq2⟩ := ihb hq
      exact ⟨x2, e2, S2, ⟨max k1 k2, fun k' hk' => by simp only [acode, h1 k' (by omega), h2 k' (by omega)]⟩, hq2⟩
    | ret => exact ⟨.ret, e1, S1, ⟨k1, fun k' hk' => by simp only [acode, h1 k' hk']⟩, hq⟩
    | exit id => exact ⟨.exit id, e1, S1, ⟨k1, fun k' hk' => by simp only [acode, h1 k' hk']⟩, hq⟩
  | cond c x y ihx ihy =>
    intro Q e S h
    obtain ⟨t, ht, h⟩ := h
    cases t with
    | true =>
      obtain ⟨x1, e1, S1, ⟨k1, h1⟩, hq⟩ := ihx (by simpa using h)
      exact ⟨x1, e1, S1, ⟨k1, fun k' hk' => by simp only [acode, ht, h1 k' hk']⟩, hq⟩
    | false =>
      obtain ⟨x1, e1, S1, ⟨k1, h1⟩, hq⟩ := ihy (by simpa using h)
      exact ⟨x1, e1, S1, ⟨k1, fun k' hk' => by simp only [acode, ht, h1 k' hk']⟩, hq⟩
  | block id c ih =>
    intro Q e S h
    obtain ⟨x, e1, S1, ⟨k1, h1⟩, hq⟩ := ih h
    cases x with
    | normal => exact ⟨.normal, e1, S1, ⟨k1, fun k' hk' => by simp only [acode, h1 k' hk']⟩, hq⟩
    | ret => exact ⟨.ret, e1, S1, ⟨k1, fun k' hk' => by simp only [acode, h1 k' hk']⟩, hq⟩
    | exit id' =>
      simp only [inBlock_] at hq
      by_cases hid : id' = id
      · rw [if_pos hid] at hq
        exact ⟨.normal, e1, S1, ⟨k1, fun k' hk' => by simp only [acode, h1 k' hk', hid, if_true]⟩, hq⟩
      · rw [if_neg hid] at hq
        exact ⟨.exit id', e1, S1, ⟨k1, fun k' hk' => by simp only [acode, h1 k' hk', hid, if_false]⟩, hq⟩
  | loop c ih =>
    intro Q e S h
    obtain ⟨n, hn⟩ := h
    have key : ∀ (n : Nat) (e : Env) (S : St), rounds_ (W P I c) Q n e S → ∃ x e' S', (∃ k, ∀ k' j, k ≤ k' → k ≤ j → aloop (acode P (acall P I k') k' c) j e S = some (x, e', S')) ∧ Q x e' S' := by
      intro n
      induction n with
      | zero => intro e S h; exact h.elim
      | succ n ihn =>
        intro e S h
        obtain ⟨x, e1, S1, ⟨k1, h1⟩, hq⟩ := ih h
        cases x with
        | normal =>
          obtain ⟨x2, e2, S2, ⟨k2, h2⟩, hq2⟩ := ihn e1 S1 hq
          refine ⟨x2, e2, S2, ⟨max k1 k2 + 1, fun k' j hk hj => ?_⟩, hq2⟩
          cases j with
          | zero => omega
          | succ j => simp only [aloop, h1 k' (by omega), h2 k' j (by omega) (by omega)]
        | ret =>
          refine ⟨.ret, e1, S1, ⟨k1 + 1, fun k' j hk hj => ?_⟩, hq⟩
          cases j with
          | zero => omega
          | succ j => simp only [aloop, h1 k' (by omega)]
        | exit id =>
          refine ⟨.exit id, e1, S1, ⟨k1 + 1, fun k' j hk hj => ?_⟩, hq⟩
          cases j with
          | zero => omega
          | succ j => simp only [aloop, h1 k' (by omega)]
    obtain ⟨x, e', S', ⟨k, hk⟩, hq⟩ := key n e S hn
    exact ⟨x, e', S', ⟨k, fun k' hk' => by simp only [acode]; exact hk k' k' hk' hk'⟩, hq⟩
  | scope c ih =>
    intro Q e S h
    obtain ⟨x, e1, S1, ⟨k1, h1⟩, hq⟩ := ih h
    exact ⟨x, e1, S1, ⟨k1, fun k' hk' => by simp only [acode, h1 k' hk']⟩, hq⟩
  | label l => intro Q e S h; exact ⟨.normal, e, S, ⟨0, fun _ _ => rfl⟩, h⟩
  | exit id => intro Q e S h; exact ⟨.exit id, e, S, ⟨0, fun _ _ => rfl⟩, h⟩
  | ret => intro Q e S h; exact ⟨.ret, e, S, ⟨0, fun _ _ => rfl⟩, h⟩
  | _ => intro Q e S h; exact h.elim
def bodyQ (P : Program) (rs : List ResultVar) (Q : Value → St → Prop) : AExit → Env → St → Prop
  | .normal, e, S => ∃ vs, aresL P S e rs = some vs ∧ Q (pack vs) S
  | .ret, e, S => ∃ vs, aresL P S e rs = some vs ∧ Q (pack vs) S
  | _, _, _ => False
theorem C_body {f : FuncId} {fn : Func} {c : Code} {rs : List ResultVar} {xs : Array Value} {S : St} {Q : Value → St → Prop} (hI : ∀ k, I k f = none) (hf : P.funcs[f]? = some fn) (hb : fn.body = some c) (hr : fn.results.toList = rs)
    (hok : okCode P (max xs.size fn.ntmps) c = true) (h : W P I c (bodyQ P rs Q) ⟨argEnv 0 xs.toList⟩ S) : C P I f xs S Q := by
  obtain ⟨x, e, S', ⟨k, hk⟩, hq⟩ := W_sound c h
  have key : ∀ vs, aresL P S' e rs = some vs → (x = .normal ∨ x = .ret) → ∃ k, ∀ k', k ≤ k' → acall P I k' f xs S = some (pack vs, S') := by
    intro vs hvs hx
    refine ⟨k + 1, fun k' hk' => ?_⟩
    cases k' with
    | zero => omega
    | succ k' =>
      have := hk k' (by omega)
      rcases hx with rfl | rfl <;> simp only [acall, hI, hf, hb, hok, if_true, this, hr, hvs]
  cases x with
  | normal => obtain ⟨vs, h1, h2⟩ := hq; exact ⟨pack vs, S', key vs h1 (.inl rfl), h2⟩
  | ret => obtain ⟨vs, h1, h2⟩ := hq; exact ⟨pack vs, S', key vs h1 (.inr rfl), h2⟩
  | exit id => exact hq.elim
theorem C_prim {f : FuncId} {xs : Array Value} {S S' : St} {v : Value} {Q : Value → St → Prop} (hI : ∃ k, ∀ k', k ≤ k' → ∃ p, I k' f = some p ∧ p xs S = some (v, S')) (hq : Q v S') : C P I f xs S Q := by
  obtain ⟨k, hk⟩ := hI
  refine ⟨v, S', ⟨k + 1, fun k' hk' => ?_⟩, hq⟩
  cases k' with
  | zero => omega
  | succ k' =>
    obtain ⟨p, h1, h2⟩ := hk k' (by omega)
    simp only [acall, h1, h2]
theorem O_mono {ops : Array Oper} {Q Q' : Env → St → Prop} (hq : ∀ e S, Q e S → Q' e S) : ∀ (l : List Oper) (fl : List Bool) {e : Env} {S : St}, O P I ops l fl Q e S → O P I ops l fl Q' e S
  | [], _, _, _, h => hq _ _ h
  | o :: r, fl, e, S, h => by
    unfold O at h ⊢
    split
    · rename_i hw
      rw [if_pos hw] at h
      split
      · rename_i hfb
        simp only [hfb] at h
        split
        · rename_i hop
          simp only [hop] at h
          obtain ⟨g, xs, h1, h2, h3⟩ := h
          exact ⟨g, xs, h1, h2, h3.mono fun v S' k => O_mono hq r fl.tail k⟩
        · rename_i hop
          split at h
          · rename_i hop2
            exact absurd hop2 (hop _ _ _)
          · obtain ⟨v, S', h1, h2⟩ := h
            exact ⟨v, S', h1, O_mono hq r fl.tail h2⟩
      · rename_i hfb
        simp only [hfb] at h
        split
        · rename_i hop
          simp only [hop] at h
          obtain ⟨g, xs, h1, h2, h3⟩ := h
          exact ⟨g, xs, h1, h2, h3.mono fun v S' k => ⟨k.1, O_mono hq r fl.tail k.2⟩⟩
        · rename_i hop
          split at h
          · rename_i hop2
            exact absurd hop2 (hop _ _ _)
          · obtain ⟨v, S', h1, h2, h3⟩ := h
            exact ⟨v, S', h1, h2, O_mono hq r fl.tail h3⟩
    · rename_i hw
      rw [if_neg hw] at h
      exact O_mono hq r fl.tail h
theorem then_mono {n n' : Env → St → Prop} {Q Q' : AExit → Env → St → Prop} (hn : ∀ e S, n e S → n' e S) (hq : ∀ x e S, Q x e S → Q' x e S) : ∀ x e S, then_ n Q x e S → then_ n' Q' x e S := by
  intro x e S h
  cases x with
  | normal => exact hn _ _ h
  | ret => exact hq _ _ _ h
  | exit id => exact hq _ _ _ h
theorem W_mono : ∀ (c : Code) {Q Q' : AExit → Env → St → Prop} {e : Env} {S : St}, (∀ x e S, Q x e S → Q' x e S) → W P I c Q e S → W P I c Q' e S := by
  intro c
  induction c with
  | skip => intro Q Q' e S hq h; exact hq _ _ _ h
  | region id ops draw => intro Q Q' e S hq h; exact O_mono (fun e S k => rQ_iff.2 ⟨(rQ_iff.1 k).1, hq _ _ _ (rQ_iff.1 k).2⟩) _ _ h
  | seq a b iha ihb => intro Q Q' e S hq h; exact iha (then_mono (fun e S k => ihb hq k) hq) h
  | cond c x y ihx ihy =>
    intro Q Q' e S hq h
    obtain ⟨t, h1, h2⟩ := h
    refine ⟨t, h1, ?_⟩
    cases t with
    | true => simpa using ihx hq (by simpa using h2)
    | false => simpa using ihy hq (by simpa using h2)
  | block id c ih =>
    intro Q Q' e S hq h
    refine ih (fun x e S k => ?_) h
    cases x with
    | normal => exact hq _ _ _ k
    | ret => exact hq _ _ _ k
    | exit id' =>
      simp only [inBlock_] at k ⊢
      split
      · rename_i hid; rw [if_pos hid] at k; exact hq _ _ _ k
      · rename_i hid; rw [if_neg hid] at k; exact hq _ _ _ k
  | loop c ih =>
    intro Q Q' e S hq h
    obtain ⟨n, hn⟩ := h
    refine ⟨n, ?_⟩
    have key : ∀ (n : Nat) (e : Env) (S : St), rounds_ (W P I c) Q n e S → rounds_ (W P I c) Q' n e S := by
      intro n
      induction n with
      | zero => intro e S h; exact h
      | succ n ihn => intro e S h; exact ih (then_mono (fun e S k => ihn e S k) hq) h
    exact key n e S hn
  | scope c ih => intro Q Q' e S hq h; exact ih hq h
  | label l => intro Q Q' e S hq h; exact hq _ _ _ h
  | exit id => intro Q Q' e S hq h; exact hq _ _ _ h
  | ret => intro Q Q' e S hq h; exact hq _ _ _ h
  | _ => intro Q Q' e S hq h; exact h.elim
theorem O_pin {ops : Array Oper} : ∀ (l : List Oper) (fl : List Bool) {Q : Env → St → Prop} {e : Env} {S : St}, O P I ops l fl Q e S → ∃ e1 S1, Q e1 S1 ∧ O P I ops l fl (fun e S => e = e1 ∧ S = S1) e S
  | [], _, _, e, S, h => ⟨e, S, h, rfl, rfl⟩
  | o :: r, fl, Q, e, S, h => by
    unfold O at h
    split at h
    · rename_i hw
      split at h
      · rename_i hfb
        split at h
        · rename_i hop
          obtain ⟨g, xs, h1, h2, v, S', h3, h4⟩ := h
          obtain ⟨e1, S1, k1, k2⟩ := O_pin r fl.tail h4
          refine ⟨e1, S1, k1, ?_⟩
          unfold O
          rw [if_pos hw]
          simp only [hfb, hop]
          exact ⟨g, xs, h1, h2, v, S', h3, k2⟩
        · rename_i hop
          obtain ⟨v, S', h1, h2⟩ := h
          obtain ⟨e1, S1, k1, k2⟩ := O_pin r fl.tail h2
          refine ⟨e1, S1, k1, ?_⟩
          unfold O
          rw [if_pos hw]
          simp only [hfb]
          exact ⟨v, S', h1, k2⟩
      · rename_i hfb
        split at h
        · rename_i hop
          obtain ⟨g, xs, h1, h2, v, S', h3, h4, h5⟩ := h
          obtain ⟨e1, S1, k1, k2⟩ := O_pin r fl.tail h5
          refine ⟨e1, S1, k1, ?_⟩
          unfold O
          rw [if_pos hw]
          simp only [hfb, hop]
          exact ⟨g, xs, h1, h2, v, S', h3, h4, k2⟩
        · rename_i hop
          obtain ⟨v, S', h1, h2, h3⟩ := h
          obtain ⟨e1, S1, k1, k2⟩ := O_pin r fl.tail h3
          refine ⟨e1, S1, k1, ?_⟩
          unfold O
          rw [if_pos hw]
          simp only [hfb]
          exact ⟨v, S', h1, h2, k2⟩
    · rename_i hw
      obtain ⟨e1, S1, k1, k2⟩ := O_pin r fl.tail h
      refine ⟨e1, S1, k1, ?_⟩
      unfold O
      rw [if_neg hw]
      exact k2
theorem W_pin : ∀ (c : Code) {Q : AExit → Env → St → Prop} {e : Env} {S : St}, W P I c Q e S → ∃ x1 e1 S1, Q x1 e1 S1 ∧ W P I c (fun x e S => x = x1 ∧ e = e1 ∧ S = S1) e S := by
  intro c
  induction c with
  | skip => intro Q e S h; exact ⟨.normal, e, S, h, rfl, rfl, rfl⟩
  | region id ops draw =>
    intro Q e S h
    obtain ⟨e1, S1, k1, k2⟩ := O_pin _ _ h
    obtain ⟨k0, k1⟩ := rQ_iff.1 k1
    exact ⟨.normal, e1, S1, k1, O_mono (fun e S k => rQ_iff.2 ⟨by rw [k.1]; exact k0, rfl, k⟩) _ _ k2⟩
  | seq a b iha ihb =>
    intro Q e S h
    obtain ⟨x1, e1, S1, k1, k2⟩ := iha h
    cases x1 with
    | normal =>
      obtain ⟨x2, e2, S2, k3, k4⟩ := ihb k1
      refine ⟨x2, e2, S2, k3, W_mono a (fun x e S k => ?_) k2⟩
      obtain ⟨rfl, rfl, rfl⟩ := k
      exact k4
    | ret =>
      refine ⟨.ret, e1, S1, k1, W_mono a (fun x e S k => ?_) k2⟩
      obtain ⟨rfl, rfl, rfl⟩ := k
      exact ⟨rfl, rfl, rfl⟩
    | exit id =>
      refine ⟨.exit id, e1, S1, k1, W_mono a (fun x e S k => ?_) k2⟩
      obtain ⟨rfl, rfl, rfl⟩ := k
      exact ⟨rfl, rfl, rfl⟩
  | cond c x y ihx ihy =>
    intro Q e S h
    obtain ⟨t, h1, h2⟩ := h
    cases t with
    | true =>
      obtain ⟨x1, e1, S1, k1, k2⟩ := ihx (by simpa using h2)
      exact ⟨x1, e1, S1, k1, true, h1, by simpa using k2⟩
    | false =>
      obtain ⟨x1, e1, S1, k1, k2⟩ := ihy (by simpa using h2)
      exact ⟨x1, e1, S1, k1, false, h1, by simpa using k2⟩
  | block id c ih =>
    intro Q e S h
    obtain ⟨x1, e1, S1, k1, k2⟩ := ih h
    cases x1 with
    | normal =>
      refine ⟨.normal, e1, S1, k1, W_mono c (fun x e S k => ?_) k2⟩
      obtain ⟨rfl, rfl, rfl⟩ := k
      exact ⟨rfl, rfl, rfl⟩
    | ret =>
      refine ⟨.ret, e1, S1, k1, W_mono c (fun x e S k => ?_) k2⟩
      obtain ⟨rfl, rfl, rfl⟩ := k
      exact ⟨rfl, rfl, rfl⟩
    | exit id' =>
      simp only [inBlock_] at k1
      by_cases hid : id' = id
      · rw [if_pos hid] at k1
        refine ⟨.normal, e1, S1, k1, W_mono c (fun x e S k => ?_) k2⟩
        obtain ⟨rfl, rfl, rfl⟩ := k
        simp only [inBlock_, if_pos hid]
        exact ⟨trivial, trivial, trivial⟩
      · rw [if_neg hid] at k1
        refine ⟨.exit id', e1, S1, k1, W_mono c (fun x e S k => ?_) k2⟩
        obtain ⟨rfl, rfl, rfl⟩ := k
        simp only [inBlock_, if_neg hid]
        exact ⟨trivial, trivial, trivial⟩
  | loop c ih =>
    intro Q e S h
    obtain ⟨n, hn⟩ := h
    have key : ∀ (n : Nat) (e : Env) (S : St), rounds_ (W P I c) Q n e S → ∃ x1 e1 S1, Q x1 e1 S1 ∧ rounds_ (W P I c) (fun x e S => x = x1 ∧ e = e1 ∧ S = S1) n e S := by
      intro n
      induction n with
      | zero => intro e S h; exact h.elim
      | succ n ihn =>
        intro e S h
        obtain ⟨x1, e1, S1, k1, k2⟩ := ih h
        cases x1 with
        | normal =>
          obtain ⟨x2, e2, S2, k3, k4⟩ := ihn e1 S1 k1
          refine ⟨x2, e2, S2, k3, W_mono c (fun x e S k => ?_) k2⟩
          obtain ⟨rfl, rfl, rfl⟩ := k
          exact k4
        | ret =>
          refine ⟨.ret, e1, S1, k1, W_mono c (fun x e S k => ?_) k2⟩
          obtain ⟨rfl, rfl, rfl⟩ := k
          exact ⟨rfl, rfl, rfl⟩
        | exit id =>
          refine ⟨.exit id, e1, S1, k1, W_mono c (fun x e S k => ?_) k2⟩
          obtain ⟨rfl, rfl, rfl⟩ := k
          exact ⟨rfl, rfl, rfl⟩
    obtain ⟨x1, e1, S1, k1, k2⟩ := key n e S hn
    exact ⟨x1, e1, S1, k1, n, k2⟩
  | scope c ih => intro Q e S h; exact ih h
  | label l => intro Q e S h; exact ⟨.normal, e, S, h, rfl, rfl, rfl⟩
  | exit id => intro Q e S h; exact ⟨.exit id, e, S, h, rfl, rfl, rfl⟩
  | ret => intro Q e S h; exact ⟨.ret, e, S, h, rfl, rfl, rfl⟩
  | _ => intro Q e S h; exact h.elim
theorem W_loop {c : Code} {Q : AExit → Env → St → Prop} {e : Env} {S : St} (J : Nat → Env → St → Prop) (n : Nat) (h0 : J n e S) (hr : ∀ n e S, J n e S → W P I c (then_ (fun e' S' => ∃ m, m < n ∧ J m e' S') Q) e S) : W P I (.loop c) Q e S := by
  have key : ∀ n (e : Env) (S : St), J n e S → ∃ k, rounds_ (W P I c) Q k e S := by
    intro n
    induction n using Nat.strongRecOn with
    | _ n ih =>
      intro e S hJ
      obtain ⟨x1, e1, S1, k1, k2⟩ := W_pin c (hr n e S hJ)
      cases x1 with
      | normal =>
        obtain ⟨m, hm, hJm⟩ := k1
        obtain ⟨k, hk⟩ := ih m hm e1 S1 hJm
        refine ⟨k + 1, W_mono c (fun x e S q => ?_) k2⟩
        obtain ⟨rfl, rfl, rfl⟩ := q
        exact hk
      | ret =>
        refine ⟨1, W_mono c (fun x e S q => ?_) k2⟩
        obtain ⟨rfl, rfl, rfl⟩ := q
        exact k1
      | exit id =>
        refine ⟨1, W_mono c (fun x e S q => ?_) k2⟩
        obtain ⟨rfl, rfl, rfl⟩ := q
        exact k1
  exact key n e S h0
end
end Go.Proofs.YtdmbgbennlnpcaaDoorAbs
namespace Go.Proofs.YtdmbgbennlnpcaaDoorAbs
set_option linter.unusedVariables false
set_option linter.unusedSimpArgs false
section
variable {P : Program} {I : Prims} {ops : Array Oper} {r : List Oper} {Q : Env → St → Prop} {e : Env} {S : St} {dst : Option Tmp} {ty : TypeId} {pos : String} {after : Array Edge} {fl : List Bool} {ev : Operand → Value}
def okO (o : Option (Value × St)) : Prop := o.isSome = true
def vO (o : Option (Value × St)) : Value := (o.getD (undef, { get := fun _ => none, next := 0, low := 0 })).1
def sO (o : Option (Value × St)) : St := (o.getD (undef, { get := fun _ => none, next := 0, low := 0 })).2
theorem okO_some (v : Value) (S : St) : okO (some (v, S)) = True := by simp [okO]
theorem vO_some (v : Value) (S : St) : vO (some (v, S)) = v := rfl
theorem sO_some (v : Value) (S : St) : sO (some (v, S)) = S := rfl
def isCallV : Op → Bool
  | .call ⟨.value _, _, _⟩ => true
  | _ => false
def OK (P : Program) (I : Prims) (ops : Array Oper) (r : List Oper) (Q : Env → St → Prop) (dst : Option Tmp) (e : Env) : Value → St → Prop := fun v S' => O P I ops r [] Q (e.putO dst v) S'
def callF (v : Value) (args : Array Value) : FuncId := ((acallee v args).getD (0, #[])).1
def callX (v : Value) (args : Array Value) : Array Value := ((acallee v args).getD (0, #[])).2
theorem O_nil : O P I ops [] fl Q e S = Q e S := rfl
theorem O_step {op : Op} (h : isCallV op = false) : O P I ops (⟨dst, op, ty, pos, after, none⟩ :: r) [] Q e S = (okO (aop P e.ev ⟨dst, op, ty, pos, after, none⟩ S) ∧ O P I ops r [] Q (e.putO dst (vO (aop P e.ev ⟨dst, op, ty, pos, after, none⟩ S))) (sO (aop P e.ev ⟨dst, op, ty, pos, after, none⟩ S))) := by
  rw [O]
  simp only [wants, if_true, List.headD_nil]
  have hop : ∀ f args ts, op ≠ .call ⟨.value f, args, ts⟩ := fun f args ts q => by rw [q] at h; cases h
  have e1 : ∀ o : Option (Value × St), (∃ v S', o = some (v, S') ∧ O P I ops r [].tail Q (e.putO dst v) S') ↔ (okO o ∧ O P I ops r [] Q (e.putO dst (vO o)) (sO o)) := by
    intro o
    cases o with
    | none => exact ⟨fun ⟨_, _, h, _⟩ => (by cases h), fun h => (by cases h.1)⟩
    | some q => exact ⟨fun ⟨v, S', h, k⟩ => (by cases h; exact ⟨rfl, k⟩), fun h => ⟨q.1, q.2, rfl, h.2⟩⟩
  cases op
  case call c =>
    obtain ⟨callee, args, ts⟩ := c
    cases callee
    case value f => cases h
    all_goals exact propext (e1 _)
  all_goals exact propext (e1 _)
theorem O_call {f : Operand} {args : Array Operand} {ts : Array TypeId} : O P I ops (⟨dst, .call ⟨.value f, args, ts⟩, ty, pos, after, none⟩ :: r) [] Q e S =
    ((acallee (e.ev f) (args.map e.ev)).isSome = true ∧ callable P (callF (e.ev f) (args.map e.ev)) = true ∧ C P I (callF (e.ev f) (args.map e.ev)) (callX (e.ev f) (args.map e.ev)) S (OK P I ops r Q dst e)) := by
  rw [O]
  simp only [wants, if_true, List.headD_nil, callF, callX]
  refine propext ⟨?_, ?_⟩
  · rintro ⟨g, xs, h1, h2, h3⟩
    rw [h1]
    exact ⟨rfl, h2, h3⟩
  · rintro ⟨h1, h2, h3⟩
    obtain ⟨q, hq⟩ := Option.isSome_iff_exists.1 h1
    rw [hq] at h2 h3
    exact ⟨q.1, q.2, hq, h2, h3⟩
theorem W_cond {c : Operand} {x y : Code} {Q : AExit → Env → St → Prop} {t : Bool} (h : e.ev c = .bool t) (h1 : t = true → W P I x Q e S) (h2 : t = false → W P I y Q e S) : W P I (.cond c x y) Q e S :=
  ⟨t, h, by cases t <;> simp_all⟩
theorem inBlock_exit {id id' : Nat} {Q : AExit → Env → St → Prop} : inBlock_ id Q (.exit id') e S = if id' = id then Q .normal e S else Q (.exit id') e S := rfl
theorem ev_tmp (t : Nat) : e.ev (.tmp t) = e.get t := rfl
theorem ev_const (v : Value) : e.ev (.const v) = v := rfl
theorem ev_global (g : Nat) : e.ev (.global g) = .pointer (some ⟨g, 0, some 0⟩) := rfl
theorem ev_func (f : FuncId) : e.ev (.func f) = .func (.func f) #[] #[] := rfl
theorem putO_some (t : Nat) (v : Value) : e.putO (some t) v = e.put t v := rfl
theorem putO_none (v : Value) : e.putO none v = e := rfl
theorem get_put (t s : Nat) (v : Value) : (e.put t v).get s = if s = t then v else e.get s := putO_get e t v s
theorem get_args (l : List Value) (t : Nat) : (⟨argEnv 0 l⟩ : Env).get t = (l[t]?).getD undef := by
  simp only [Env.get, lk_args, Nat.zero_le, if_true, Nat.sub_zero]
theorem callF_func (f : FuncId) (first captured args : Array Value) : callF (.func (.func f) first captured) args = f := rfl
theorem callX_func (f : FuncId) (first captured args : Array Value) : callX (.func (.func f) first captured) args = (first ++ args) ++ captured := rfl
theorem acallee_func (f : FuncId) (first captured args : Array Value) : acallee (.func (.func f) first captured) args = some (f, (first ++ args) ++ captured) := rfl
def lift (S : St) : Option Value → Option (Value × St)
  | some v => some (v, S)
  | none => none
theorem lift_none (S : St) : lift S none = none := rfl
theorem lift_some (S : St) (v : Value) : lift S (some v) = some (v, S) := rfl
theorem aop_move (x : Operand) : aop P ev ⟨dst, .move x, ty, pos, after, none⟩ S = some (ev x, S) := rfl
theorem aop_assign (x : Operand) : aop P ev ⟨dst, .assign x, ty, pos, after, none⟩ S = some (ev x, S) := rfl
def binX (P : Program) (op : BinOp) (t : TypeId) (x y : Operand) (a b : Value) : Option Value :=
  match abinOp P op t a b with
  | some v => some v
  | none =>
    if scalar a = true ∧ scalar b = true then
      match pureRun P (do eqGuard op t x y a b; binOp op t a b) with
      | some v => if scalar v = true then some v else none
      | none => none
    else none
theorem pureRun_bind {α β : Type} (e : Sem α) (f : α → Sem β) : pureRun P (e >>= f) = (pureRun P e).bind fun a => pureRun P (f a) := by
  show pureRun P (e.bind f) = _
  induction e with
  | pure a => rfl
  | program k ih => simp only [Sem.bind, pureRun]; exact ih P
  | _ => rfl
theorem pureRun_pure {α : Type} (a : α) : pureRun P (pure a : Sem α) = some a := rfl
theorem aop_scalar {op : Op} (hH : aopH P ev op S = none) (hs : isSelect op = false) {xs : List Operand} (hx : op.operands.toList = xs) {X : Sem Value} (he : ∀ dst ty pos after guard, execOp ev ⟨dst, op, ty, pos, after, guard⟩ = do pure (.value (← X))) :
    aop P ev ⟨dst, op, ty, pos, after, none⟩ S = lift S (if xs.all (fun x => scalar (ev x)) = true then (match pureRun P X with | some v => if scalar v = true then some v else none | none => none) else none) := by
  unfold aop
  rw [hH]
  simp only
  unfold ascalar
  have e0 : op.operands.all (fun x => scalar (ev x)) = xs.all fun x => scalar (ev x) := by rw [← hx, Array.all_toList]
  simp only [e0, hs, and_true, he, pureRun_bind]
  split
  · cases hp : pureRun P X with
    | none => rfl
    | some v =>
      simp only [Option.bind_some, pureRun_pure]
      split <;> rfl
  · rfl
theorem aop_binOp (op : BinOp) (t : TypeId) (x y : Operand) (yt : TypeId) : aop P ev ⟨dst, .binOp op t x y yt, ty, pos, after, none⟩ S = lift S (binX P op t x y (ev x) (ev y)) := by
  unfold binX
  cases ha : abinOp P op t (ev x) (ev y) with
  | some v => simp only [aop, aopH, ha, lift]
  | none =>
    rw [aop_scalar (xs := [x, y]) (X := do eqGuard op t x y (ev x) (ev y); binOp op t (ev x) (ev y)) (by simp only [aopH, ha]) rfl (by simp [Op.operands]) (fun _ _ _ _ _ => rfl)]
    simp only [List.all_cons, List.all_nil, Bool.and_true, Bool.and_eq_true]
theorem binX_add (t : TypeId) (x y : Operand) (k : IntKind) (a b : Int) : binX P .add t x y (.int k a) (.int k b) = some (.int k (k.wrap (a + b))) := by
  simp [binX, abinOp, scalar, leaf, eqGuard, binOp, Op.intArith, pureRun, pureRun_bind, Bind.bind, Sem.bind, pure]
theorem binX_sub (t : TypeId) (x y : Operand) (k : IntKind) (a b : Int) : binX P .sub t x y (.int k a) (.int k b) = some (.int k (k.wrap (a - b))) := by
  simp [binX, abinOp, scalar, leaf, eqGuard, binOp, Op.intArith, pureRun, Bind.bind, Sem.bind, pure]
theorem binX_mul (t : TypeId) (x y : Operand) (k : IntKind) (a b : Int) : binX P .mul t x y (.int k a) (.int k b) = some (.int k (k.wrap (a * b))) := by
  simp [binX, abinOp, scalar, leaf, eqGuard, binOp, Op.intArith, pureRun, Bind.bind, Sem.bind, pure]
theorem binX_lss (t : TypeId) (x y : Operand) (k : IntKind) (a b : Int) : binX P .lss t x y (.int k a) (.int k b) = some (.bool (decide (a < b))) := by
  simp [binX, abinOp, scalar, leaf, eqGuard, binOp, Op.intCmp, pureRun, Bind.bind, Sem.bind, pure]
theorem binX_leq (t : TypeId) (x y : Operand) (k : IntKind) (a b : Int) : binX P .leq t x y (.int k a) (.int k b) = some (.bool (decide (a ≤ b))) := by
  simp [binX, abinOp, scalar, leaf, eqGuard, binOp, Op.intCmp, pureRun, Bind.bind, Sem.bind, pure]
theorem binX_gtr (t : TypeId) (x y : Operand) (k : IntKind) (a b : Int) : binX P .gtr t x y (.int k a) (.int k b) = some (.bool (decide (b < a))) := by
  simp [binX, abinOp, scalar, leaf, eqGuard, binOp, Op.intCmp, pureRun, Bind.bind, Sem.bind, pure]
theorem binX_geq (t : TypeId) (x y : Operand) (k : IntKind) (a b : Int) : binX P .geq t x y (.int k a) (.int k b) = some (.bool (decide (b ≤ a))) := by
  simp [binX, abinOp, scalar, leaf, eqGuard, binOp, Op.intCmp, pureRun, Bind.bind, Sem.bind, pure]
theorem binX_eql (t : TypeId) (x y : Operand) (k : IntKind) (a b : Int) : binX P .eql t x y (.int k a) (.int k b) = some (.bool (decide (a = b))) := by
  simp [binX, abinOp, anil, scalar, leaf, eqGuard, binOp, Op.intCmp, pureRun, Bind.bind, Sem.bind, pure]
  rfl
theorem binX_neq (t : TypeId) (x y : Operand) (k : IntKind) (a b : Int) : binX P .neq t x y (.int k a) (.int k b) = some (.bool (!decide (a = b))) := by
  simp [binX, abinOp, anil, scalar, leaf, eqGuard, binOp, Op.intCmp, pureRun, Bind.bind, Sem.bind, pure, bne]
  rfl
theorem binX_quo (t : TypeId) (x y : Operand) (k : IntKind) (a b : Int) (h : b ≠ 0) : binX P .quo t x y (.int k a) (.int k b) = some (.int k (k.wrap (a.tdiv b))) := by
  simp [binX, abinOp, scalar, leaf, eqGuard, binOp, Op.intDiv, h, pureRun, Bind.bind, Sem.bind, pure]
theorem binX_rem (t : TypeId) (x y : Operand) (k : IntKind) (a b : Int) (h : b ≠ 0) : binX P .rem t x y (.int k a) (.int k b) = some (.int k (a.tmod b)) := by
  simp [binX, abinOp, scalar, leaf, eqGuard, binOp, Op.intDiv, h, pureRun, Bind.bind, Sem.bind, pure]
theorem binX_sadd (t : TypeId) (x y : Operand) (a b : ByteArray) (h : a.size + b.size ≤ 9223372036854775807) : binX P .add t x y (.string a) (.string b) = some (.string (a ++ b)) := by
  have h' : ¬ (9223372036854775807 < (a.size : Int) + (b.size : Int)) := by omega
  simp [binX, abinOp, scalar, leaf, eqGuard, binOp, Op.stringOp, IntKind.max, IntKind.signed, IntKind.bits, h', pureRun, Bind.bind, Sem.bind, pure]
theorem binX_seql (t : TypeId) (x y : Operand) (a b : ByteArray) : binX P .eql t x y (.string a) (.string b) = some (.bool (a.toList == b.toList)) := by
  simp [binX, abinOp, anil, scalar, leaf, eqGuard, binOp, Op.stringOp, pureRun, Bind.bind, Sem.bind, pure]
theorem binX_sneq (t : TypeId) (x y : Operand) (a b : ByteArray) : binX P .neq t x y (.string a) (.string b) = some (.bool (!(a.toList == b.toList))) := by
  simp [binX, abinOp, anil, scalar, leaf, eqGuard, binOp, Op.stringOp, pureRun, Bind.bind, Sem.bind, pure]
def unX (P : Program) (op : UnOp) (a : Value) : Option Value :=
  if scalar a = true then match pureRun P (Op.unary op a) with
    | some v => if scalar v = true then some v else none
    | none => none
  else none
theorem aop_unOp (op : UnOp) (t : TypeId) (x : Operand) : aop P ev ⟨dst, .unOp op t x, ty, pos, after, none⟩ S = lift S (unX P op (ev x)) := by
  rw [aop_scalar (xs := [x]) (X := Op.unary op (ev x)) rfl rfl (by simp [Op.operands]) (fun _ _ _ _ _ => rfl)]
  simp only [List.all_cons, List.all_nil, Bool.and_true, unX]
theorem unX_not (b : Bool) : unX P .not (.bool b) = some (.bool !b) := by simp [unX, Op.unary, scalar, leaf, pureRun, pure]
theorem unX_neg (k : IntKind) (n : Int) : unX P .neg (.int k n) = some (.int k (k.wrap (0 - n))) := by simp [unX, Op.unary, Op.intArith, scalar, leaf, pureRun, pure]
def pkX : Value → Value → Value → Option Value
  | .bool t, a, b => some (if t then a else b)
  | _, _, _ => none
theorem aop_pick (c a b : Operand) : aop P ev ⟨dst, .pick c a b, ty, pos, after, none⟩ S = lift S (pkX (ev c) (ev a) (ev b)) := by
  have h : ∀ v, (∀ t, v ≠ .bool t) → pkX v (ev a) (ev b) = none := fun v hv => by
    unfold pkX
    split
    · exact absurd rfl (hv _)
    · rfl
  cases hc : ev c with
  | bool t => simp only [aop, aopH, hc, pkX, lift]
  | _ =>
    rw [h _ (fun t q => by cases q)]
    simp only [lift, aop, aopH, hc, ascalar]
    split
    · simp [execOp, hc, asBool, pureRun, pureRun_bind, Bind.bind, Sem.bind, stuck, unsupported]
    · rfl
theorem pkX_and (t x : Bool) : pkX (.bool t) (.bool x) (.bool false) = some (.bool (t && x)) := by cases t <;> rfl
theorem pkX_or (t x : Bool) : pkX (.bool t) (.bool true) (.bool x) = some (.bool (t || x)) := by cases t <;> rfl
def alt (a b : Option (Value × St)) : Option (Value × St) :=
  match a with
  | some r => some r
  | none => b
theorem alt_some (r : Value × St) (b : Option (Value × St)) : alt (some r) b = some r := rfl
theorem alt_none (b : Option (Value × St)) : alt none b = b := rfl
theorem aop_alt (o : Oper) : aop P ev o S = alt (aopH P ev o.op S) (ascalar P ev o S) := by
  unfold aop alt
  cases aopH P ev o.op S <;> rfl
def rest (P : Program) (ev : Operand → Value) (o : Oper) (S : St) : Option (Value × St) := ascalar P ev o S
theorem aop_alloc (t : TypeId) : aop P ev ⟨dst, .alloc t, ty, pos, after, none⟩ S = alt (match azero P t with
    | some z => if scalar z = true ∧ (asize P t).isSome = true then some (ptrAt S.next z.cells.size, S.push ⟨z.cells.toList, t, true, 0⟩) else none
    | none => none) (rest P ev ⟨dst, .alloc t, ty, pos, after, none⟩ S) := aop_alt _
theorem aop_box (t : TypeId) (x : Operand) : aop P ev ⟨dst, .box t x, ty, pos, after, none⟩ S = alt (if (asize P t).isSome = true then some (ptrAt S.next (ev x).cells.size, S.push ⟨(ev x).cells.toList, t, true, 0⟩) else none) (rest P ev ⟨dst, .box t x, ty, pos, after, none⟩ S) := aop_alt _
theorem aop_build (t : TypeId) (ps : Array (Nat × Operand)) : aop P ev ⟨dst, .build t ps, ty, pos, after, none⟩ S = alt (lift S (abuild P t (ps.map fun (i, x) => (i, ev x)))) (rest P ev ⟨dst, .build t ps, ty, pos, after, none⟩ S) := by
  rw [aop_alt]
  simp only [aopH, rest]
  cases abuild P t (ps.map fun (i, x) => (i, ev x)) <;> rfl
theorem aop_buildSlice (t : TypeId) (n : Nat) (ps : Array (Nat × Operand)) : aop P ev ⟨dst, .buildSlice t n ps, ty, pos, after, none⟩ S = alt (abuildSlice P S t n (ps.map fun (i, x) => (i, ev x))) (rest P ev ⟨dst, .buildSlice t n ps, ty, pos, after, none⟩ S) := aop_alt _
theorem aop_load (t : TypeId) (a : Operand) : aop P ev ⟨dst, .load t a, ty, pos, after, none⟩ S = alt (lift S (aload P S t (ev a))) (rest P ev ⟨dst, .load t a, ty, pos, after, none⟩ S) := by
  rw [aop_alt]
  simp only [aopH, rest]
  cases aload P S t (ev a) <;> rfl
def liftS : Option St → Option (Value × St)
  | some S' => some (undef, S')
  | none => none
theorem liftS_none : liftS none = none := rfl
theorem liftS_some (S' : St) : liftS (some S') = some (undef, S') := rfl
theorem aop_store (t : TypeId) (a x : Operand) : aop P ev ⟨dst, .store t a x, ty, pos, after, none⟩ S = alt (liftS (astore P S t (ev a) (ev x))) (rest P ev ⟨dst, .store t a x, ty, pos, after, none⟩ S) := by
  rw [aop_alt]
  simp only [aopH, rest]
  cases astore P S t (ev a) (ev x) <;> rfl
def nilX : Value → Option Value
  | .pointer (some a) => some (.pointer (some a))
  | _ => none
theorem aop_nilCheck (x : Operand) : aop P ev ⟨dst, .nilCheck x, ty, pos, after, none⟩ S = alt (lift S (nilX (ev x))) (rest P ev ⟨dst, .nilCheck x, ty, pos, after, none⟩ S) := by
  rw [aop_alt]
  simp only [aopH, rest, nilX]
  split
  · rename_i a ha
    rw [ha]
    rfl
  · rename_i hn
    split
    · rename_i a ha
      exact absurd ha (hn a)
    · rfl
theorem nilX_some (a : Addr) : nilX (.pointer (some a)) = some (.pointer (some a)) := rfl
theorem aop_makeInterface (t : TypeId) (x : Operand) : aop P ev ⟨dst, .makeInterface t x, ty, pos, after, none⟩ S = alt (if P.concrete t = true then some (.iface t (ev x), S) else none) (rest P ev ⟨dst, .makeInterface t x, ty, pos, after, none⟩ S) := aop_alt _
theorem aop_makeFunc (fn : Fn) (f c : Array Operand) : aop P ev ⟨dst, .makeFunc fn f c, ty, pos, after, none⟩ S = some (.func fn (f.map ev) (c.map ev), S) := rfl
theorem aop_makeSlice (t : TypeId) (l c : Operand) : aop P ev ⟨dst, .makeSlice t l c, ty, pos, after, none⟩ S = alt (amakeSlice P S t (ev l) (ev c)) (rest P ev ⟨dst, .makeSlice t l c, ty, pos, after, none⟩ S) := aop_alt _
theorem aop_fieldAddr (s : TypeId) (x : Operand) (f : Nat) : aop P ev ⟨dst, .fieldAddr s x f, ty, pos, after, none⟩ S = alt (lift S (afieldAddr P s f (ev x))) (rest P ev ⟨dst, .fieldAddr s x f, ty, pos, after, none⟩ S) := by
  rw [aop_alt]
  simp only [aopH, rest]
  cases afieldAddr P s f (ev x) <;> rfl
theorem aop_field (t : TypeId) (x : Operand) (f : Nat) : aop P ev ⟨dst, .field t x f, ty, pos, after, none⟩ S = alt (lift S (afield P t f (ev x))) (rest P ev ⟨dst, .field t x f, ty, pos, after, none⟩ S) := by
  rw [aop_alt]
  simp only [aopH, rest]
  cases afield P t f (ev x) <;> rfl
theorem aop_indexAddr (t : TypeId) (x i : Operand) : aop P ev ⟨dst, .indexAddr t x i, ty, pos, after, none⟩ S = alt (lift S (aindexAddr P t (ev x) (ev i))) (rest P ev ⟨dst, .indexAddr t x i, ty, pos, after, none⟩ S) := by
  rw [aop_alt]
  simp only [aopH, rest]
  cases aindexAddr P t (ev x) (ev i) <;> rfl
def extX : Value → Nat → Option Value
  | .tuple vs, i => vs[i]?
  | _, _ => none
theorem aop_extract (t : Operand) (i : Nat) : aop P ev ⟨dst, .extract t i, ty, pos, after, none⟩ S = alt (lift S (extX (ev t) i)) (rest P ev ⟨dst, .extract t i, ty, pos, after, none⟩ S) := by
  rw [aop_alt]
  simp only [aopH, rest, extX]
  cases ht : ev t with
  | tuple vs => simp only; cases vs[i]? <;> rfl
  | _ => rfl
theorem extX_tuple (l : List Value) (i : Nat) : extX (.tuple l.toArray) i = l[i]? := by simp [extX]
def ssX (P : Program) (t : TypeId) (x : Value) (lo hi mx : Option Value) : Option Value :=
  if scalar x = true ∧ (lo.map scalar).getD true = true ∧ (hi.map scalar).getD true = true ∧ (mx.map scalar).getD true = true then
    match pureRun P (Instr.sliceAt t x lo hi mx) with
    | some v => if scalar v = true then some v else none
    | none => none
  else none
theorem aop_slice (t : TypeId) (x : Operand) (lo hi mx : Option Operand) : aop P ev ⟨dst, .slice t x lo hi mx, ty, pos, after, none⟩ S = alt (lift S (aslice P t (ev x) (lo.map ev) (hi.map ev) (mx.map ev))) (lift S (ssX P t (ev x) (lo.map ev) (hi.map ev) (mx.map ev))) := by
  cases ha : aslice P t (ev x) (lo.map ev) (hi.map ev) (mx.map ev) with
  | some v => simp only [aop, aopH, ha, lift, alt]
  | none =>
    rw [aop_scalar (xs := [x] ++ lo.toList ++ hi.toList ++ mx.toList) (X := Instr.sliceAt t (ev x) (lo.map ev) (hi.map ev) (mx.map ev)) (by simp only [aopH, ha]) rfl (by cases lo <;> cases hi <;> cases mx <;> simp [Op.operands]) (fun _ _ _ _ _ => rfl)]
    simp only [lift, alt, ssX]
    cases lo <;> cases hi <;> cases mx <;> simp [and_assoc]
theorem ssX_lh (t : TypeId) (s : ByteArray) (k k' : IntKind) (l h : Int) (hu : P.underlying t = some .string) (h0 : 0 ≤ l) (h1 : l ≤ h) (h2 : h ≤ s.size) : ssX P t (.string s) (some (.int k l)) (some (.int k' h)) none = some (.string (s.extract l.toNat h.toNat)) := by
  have e : (h.toNat : Int) = h := Int.toNat_of_nonneg (by omega)
  have hl : l ≤ (h.toNat : Int) := by omega
  have hpu : pureRun P (underlying t) = some .string := by simp [underlying, program, pureRun, pureRun_bind, Bind.bind, Sem.bind, hu, pure]
  simp [ssX, scalar, leaf, Instr.sliceAt, Instr.slice, pureRun_bind, hpu, Instr.sliceBounds, Instr.sliceBound, asIntOf, pureRun_pure, h0, h1, h2, show max h 0 = h by omega, show (0 : Int) ≤ h by omega]
theorem ssX_l (t : TypeId) (s : ByteArray) (k : IntKind) (l : Int) (hu : P.underlying t = some .string) (h0 : 0 ≤ l) (h1 : l ≤ s.size) : ssX P t (.string s) (some (.int k l)) none none = some (.string (s.extract l.toNat s.size)) := by
  have hpu : pureRun P (underlying t) = some .string := by simp [underlying, program, pureRun, pureRun_bind, Bind.bind, Sem.bind, hu, pure]
  simp [ssX, scalar, leaf, Instr.sliceAt, Instr.slice, pureRun_bind, hpu, Instr.sliceBounds, Instr.sliceBound, asIntOf, pureRun_pure, h0, h1]
theorem ssX_h (t : TypeId) (s : ByteArray) (k : IntKind) (h : Int) (hu : P.underlying t = some .string) (h0 : 0 ≤ h) (h1 : h ≤ s.size) : ssX P t (.string s) none (some (.int k h)) none = some (.string (s.extract 0 h.toNat)) := by
  have hpu : pureRun P (underlying t) = some .string := by simp [underlying, program, pureRun, pureRun_bind, Bind.bind, Sem.bind, hu, pure]
  simp [ssX, scalar, leaf, Instr.sliceAt, Instr.slice, pureRun_bind, hpu, Instr.sliceBounds, Instr.sliceBound, asIntOf, pureRun_pure, h0, h1]
theorem aslice_string (t : TypeId) (s : ByteArray) (lo hi mx : Option Value) : aslice P t (.string s) lo hi mx = none := by
  unfold aslice
  split
  · split <;> first | rfl | simp_all
  · rfl
def ixX (P : Program) (t : TypeId) (x i : Value) : Option Value :=
  if scalar x = true ∧ scalar i = true then
    match pureRun P (Instr.index t x i) with
    | some v => if scalar v = true then some v else none
    | none => none
  else none
theorem aop_index (t : TypeId) (x i : Operand) : aop P ev ⟨dst, .index t x i, ty, pos, after, none⟩ S = alt (lift S (aindex P t (ev x) (ev i))) (lift S (ixX P t (ev x) (ev i))) := by
  cases ha : aindex P t (ev x) (ev i) with
  | some v => simp only [aop, aopH, ha, lift, alt]
  | none =>
    rw [aop_scalar (xs := [x, i]) (X := Instr.index t (ev x) (ev i)) (by simp only [aopH, ha]) rfl (by simp [Op.operands]) (fun _ _ _ _ _ => rfl)]
    simp only [lift, alt, ixX, List.all_cons, List.all_nil, Bool.and_true, Bool.and_eq_true]
theorem aindex_string (t : TypeId) (s : ByteArray) (i : Value) : aindex P t (.string s) i = none := by
  unfold aindex
  split <;> first | rfl | simp_all
theorem ixX_string (t : TypeId) (s : ByteArray) (k : IntKind) (i : Int) (hu : P.underlying t = some .string) (h0 : 0 ≤ i) (h1 : i < s.size) : ixX P t (.string s) (.int k i) = some (.int .u8 ((s.data.toList.getD i.toNat 0).toNat : Int)) := by
  have hpu : pureRun P (underlying t) = some .string := by simp [underlying, program, pureRun, pureRun_bind, Bind.bind, Sem.bind, hu, pure]
  have hlt : i.toNat < s.size := by omega
  have e1 : s[i.toNat]? = some (s.data.toList.getD i.toNat 0) := by
    have : i.toNat < s.data.size := hlt
    simp [getElem?_pos, hlt, List.getD, this]
    rfl
  simp [ixX, scalar, leaf, Instr.index, pureRun_bind, hpu, asIntOf, pureRun_pure, h0, e1]
def cvX (P : Program) (src d : TypeId) (x : Value) : Option Value :=
  if scalar x = true then
    match pureRun P (convert src d x) with
    | some v => if scalar v = true then some v else none
    | none => none
  else none
theorem aop_convert (src d : TypeId) (x : Operand) : aop P ev ⟨dst, .convert src d x, ty, pos, after, none⟩ S = alt (aconvert P S src d (ev x)) (lift S (cvX P src d (ev x))) := by
  cases ha : aconvert P S src d (ev x) with
  | some v => simp only [aop, aopH, ha, alt]
  | none =>
    rw [aop_scalar (xs := [x]) (X := convert src d (ev x)) (by simp only [aopH, ha]) rfl (by simp [Op.operands]) (fun _ _ _ _ _ => rfl)]
    simp only [lift, alt, cvX, List.all_cons, List.all_nil, Bool.and_true]
theorem aconvert_int (src d : TypeId) (k : IntKind) (n : Int) : aconvert P S src d (.int k n) = none := by
  unfold aconvert
  split <;> first | rfl | simp_all
theorem cvX_int (src d : TypeId) (k : IntKind) (n : Int) (hs : (P.underlying src).isSome = true) (k' : IntKind) (hd : P.underlying d = some (.int k')) : cvX P src d (.int k n) = some (.int k' (k'.wrap n)) := by
  obtain ⟨q, hq⟩ := Option.isSome_iff_exists.1 hs
  have h1 : pureRun P (underlying src) = some q := by simp [underlying, program, pureRun, pureRun_bind, Bind.bind, Sem.bind, hq, pure]
  have h2 : pureRun P (underlying d) = some (.int k') := by simp [underlying, program, pureRun, pureRun_bind, Bind.bind, Sem.bind, hd, pure]
  simp [cvX, scalar, leaf, convert, pureRun_bind, h1, h2, Conv.intToInt, pureRun_pure]
theorem aop_builtin (b : Builtin) (args : Array Operand) (ts : Array TypeId) : aop P ev ⟨dst, .call ⟨.builtin b, args, ts⟩, ty, pos, after, none⟩ S = alt (abuiltin P S b ts.toList (args.toList.map ev)) (ascalar P ev ⟨dst, .call ⟨.builtin b, args, ts⟩, ty, pos, after, none⟩ S) := aop_alt _
theorem aop_typeAssert (x : Operand) (xt t : TypeId) (ok : Bool) : aop P ev ⟨dst, .typeAssert x xt t ok, ty, pos, after, none⟩ S = alt (lift S (atypeAssert P t ok (ev x))) (ascalar P ev ⟨dst, .typeAssert x xt t ok, ty, pos, after, none⟩ S) := by
  rw [aop_alt]
  simp only [aopH]
  cases atypeAssert P t ok (ev x) <;> rfl
end
end Go.Proofs.YtdmbgbennlnpcaaDoorAbs
namespace Go.Proofs.YtdmbgbennlnpcaaDoorAbs
set_option linter.unusedVariables false
set_option linter.unusedSimpArgs false
structure Start (P : Program) (ρ : Ren) (S : St) (w : World) : Prop where
  rel : Rel P ρ S w
  wf : S.WF
  new : ∀ b L, S.next ≤ b → ρ b L = none
  low : S.next ≤ S.low
  their : ∀ b blk, S.get b = some blk → blk.own = false
def St.start (G : Nat) (gl : Nat → Option (List Value)) (wh : Nat → Bool := fun _ => false) : St := { get := fun i => if i ≤ G then (gl i).map fun cs => ⟨cs, if wh i = true then 1 else 0, false, 0⟩ else none, next := G + 1, low := G + 1 }
def Ren.start (G : Nat) : Ren := fun b L => if b ≤ G ∧ L = 0 then some ⟨b, 0, 0, 0, 0, false⟩ else none
def St.theirs (S : St) (cs : List Value) : St := { get := fun i => if i = S.next then some ⟨cs, 0, false, 0⟩ else S.get i, next := S.next + 1, low := S.next + 1 }
section
variable {P : Program} {ρ : Ren} {S : St} {w : World}
theorem start0w (gl : Nat → Option (List Value)) (wh : Nat → Bool) (hG : P.globals.size < w.heap.size)
    (hg : ∀ g cs, g ≤ P.globals.size → gl g = some cs → ∀ (j : Nat) (v : Value), cs[j]? = some v → ∃ v', w.cell? ⟨g, j, none⟩ = some v' ∧ VR (Ren.start P.globals.size) v v')
    (hw : ∀ g cs, g ≤ P.globals.size → gl g = some cs → wh g = true → ∃ ty fr, w.heap[g]? = some (.cells cs.toArray ty fr)) :
    Start P (Ren.start P.globals.size) (St.start P.globals.size gl wh) w := by
  have hr : ∀ b L loc, Ren.start P.globals.size b L = some loc → b ≤ P.globals.size ∧ L = 0 ∧ loc = ⟨b, 0, 0, 0, 0, false⟩ := by
    intro b L loc h
    unfold Ren.start at h
    split at h
    · rename_i hb; cases h; exact ⟨hb.1, hb.2, rfl⟩
    · cases h
  refine ⟨⟨fun g h => by simp [Ren.start, h], fun b L loc h => ?_, fun b L loc blk h hb => ?_, fun b L loc b' L' loc' h h' ho => ?_⟩, fun b hb => ?_, fun b L hb => ?_, Nat.le_refl _, fun b blk hb => ?_⟩
  · obtain ⟨h1, rfl, rfl⟩ := hr _ _ _ h
    show b < _
    omega
  · obtain ⟨h1, rfl, rfl⟩ := hr _ _ _ h
    simp only [St.start, h1, if_true, Option.map_eq_some_iff] at hb
    obtain ⟨cs, hcs, rfl⟩ := hb
    refine ⟨rfl, fun h => (by cases h), fun _ j v _ _ hj => ?_, fun _ he => ?_⟩
    · obtain ⟨v', e1, e2⟩ := hg b cs h1 hcs j v hj
      exact ⟨j, v', by simp, e1, e2⟩
    · simp only at he
      split at he
      · rename_i hwb
        exact hw b cs h1 hcs hwb
      · cases he
  · obtain ⟨h1, rfl, rfl⟩ := hr _ _ _ h
    cases ho
  · simp only [St.start] at hb ⊢
    rw [if_neg (by omega)]
  · simp only [St.start] at hb
    simp only [Ren.start]
    rw [if_neg (by omega)]
  · simp only [St.start] at hb
    split at hb
    · obtain ⟨cs, _, rfl⟩ := Option.map_eq_some_iff.1 hb; rfl
    · cases hb
theorem Start.row (h : Start P ρ S w) (size : Nat) (cs : List Value) (A : Option Addr) (n C : Nat) (hn : n ≤ C) (h0 : n = 0 ↔ cs = [])
    (hc : 0 < n → ∃ ad, A = some ad ∧ ∀ (j : Nat) (v : Value), cs[j]? = some v → ∃ v', w.cell? (ad.add j) = some v' ∧ VR ρ v v') :
    ∃ ρ', ρ.le ρ' ∧ Start P ρ' (S.theirs cs) w ∧ VR ρ' (.slice (some ⟨S.next, 0, some 0⟩) n (UNK + size)) (.slice A n C) := by
  obtain ⟨loc, ho, hlo, hlt, hcell, hv⟩ : ∃ loc : Loc, loc.own = false ∧ loc.lo = 0 ∧ loc.B < w.heap.size ∧ (∀ (j : Nat) (v : Value), cs[j]? = some v → ∃ (A : Nat) (v' : Value), (A : Int) = loc.base + j ∧ w.cell? ⟨loc.B, A, none⟩ = some v' ∧ VR ρ v v') ∧
      (∀ ρ' : Ren, ρ' S.next 0 = some loc → VR ρ' (.slice (some ⟨S.next, 0, some 0⟩) n (UNK + size)) (.slice A n C)) := by
    by_cases hz : n = 0
    · subst hz
      have hcs := h0.1 rfl
      subst hcs
      refine ⟨⟨0, 0, 0, 0, 0, false⟩, rfl, rfl, ?_, fun j v hj => by simp at hj, fun ρ' hr => ?_⟩
      · exact h.rel.loc 0 0 _ (h.rel.glob 0 (Nat.zero_le _))
      · exact .sl0 _ _ _ _ _ _ (.inr ⟨Nat.le_add_right _ _, _, hr, rfl⟩)
    · obtain ⟨⟨B, o, sp⟩, rfl, hcc⟩ := hc (by omega)
      have hne : cs ≠ [] := fun e => hz (h0.2 e)
      obtain ⟨c0, cs', rfl⟩ : ∃ c0 cs', cs = c0 :: cs' := by cases cs with | nil => exact absurd rfl hne | cons a b => exact ⟨a, b, rfl⟩
      obtain ⟨v0, e1, e2⟩ := hcc 0 c0 rfl
      have hsp : sp = none := by
        unfold World.cell? at e1
        split at e1
        · simp only [Addr.add] at e1
          cases sp with
          | none => rfl
          | some s => simp at e1
        · cases e1
      subst hsp
      have hB : B < w.heap.size := by
        unfold World.cell? at e1
        split at e1
        · rename_i hh
          simp only [Addr.add] at hh
          exact (Array.getElem?_eq_some_iff.1 hh).1
        · cases e1
      refine ⟨⟨B, o, 0, 0, 0, false⟩, rfl, rfl, hB, fun j v hj => ?_, fun ρ' hr => ?_⟩
      · obtain ⟨v', k1, k2⟩ := hcc j v hj
        refine ⟨o + j, v', by simp, ?_, k2⟩
        have e : Addr.add ⟨B, o, none⟩ j = ⟨B, o + j, none⟩ := by unfold Addr.add; split <;> simp_all
        rw [← e]; exact k1
      · exact .sl S.next 0 0 o n (UNK + size) C ⟨B, o, 0, 0, 0, false⟩ hr (Nat.le_refl _) (by simp) (.inl (Nat.le_add_right _ _)) hn (fun h => by cases h)
  have hle : ρ.le (ρ.add S.next 0 loc) := by
    intro b L l hb
    unfold Ren.add
    rw [if_neg]
    · exact hb
    · rintro ⟨rfl, rfl⟩
      rw [h.new _ _ (Nat.le_refl _)] at hb
      cases hb
  have hr : ∀ b L l, ρ.add S.next 0 loc b L = some l → (b = S.next ∧ L = 0 ∧ l = loc) ∨ (b < S.next ∧ ρ b L = some l) := by
    intro b L l hb
    unfold Ren.add at hb
    split at hb
    · rename_i hh; cases hb; exact .inl ⟨hh.1, hh.2, rfl⟩
    · refine .inr ⟨?_, hb⟩
      by_cases hlt : b < S.next
      · exact hlt
      · rw [h.new b L (by omega)] at hb; cases hb
  refine ⟨ρ.add S.next 0 loc, hle, ⟨⟨fun g hg => hle _ _ _ (h.rel.glob g hg), fun b L l hb => ?_, fun b L l blk hb hk => ?_, fun b L l b' L' l' hb hb' hown hB a a' => ?_⟩, fun b hb => ?_, fun b L hb => ?_, Nat.le_refl _, fun b blk hb => ?_⟩, hv _ (by simp [Ren.add])⟩
  · rcases hr _ _ _ hb with ⟨rfl, rfl, rfl⟩ | ⟨_, hb⟩
    · exact hlt
    · exact h.rel.loc _ _ _ hb
  · rcases hr _ _ _ hb with ⟨rfl, rfl, rfl⟩ | ⟨hlt', hb⟩
    · simp only [St.theirs, if_true] at hk
      cases hk
      refine ⟨ho.symm, fun q => (by rw [ho] at q; cases q), fun _ j v _ _ hj => ?_, fun _ he => (by cases he)⟩
      obtain ⟨A', v', e1, e2, e3⟩ := hcell j v hj
      exact ⟨A', v', e1, e2, e3.mono hle⟩
    · simp only [St.theirs] at hk
      rw [if_neg (by omega)] at hk
      have q := h.rel.blk _ _ _ _ hb hk
      refine ⟨q.own, q.row, fun a j v h1 h2 h3 => ?_, q.all⟩
      obtain ⟨A', v', e1, e2, e3⟩ := q.cells a j v h1 h2 h3
      exact ⟨A', v', e1, e2, e3.mono hle⟩
  · have al : ∀ b L, b < S.next → Alive (S.theirs cs) b L → Alive S b L := by
      rintro b L hlt' ⟨blk, g, k⟩
      simp only [St.theirs] at g
      rw [if_neg (by omega)] at g
      exact ⟨blk, g, k⟩
    rcases hr _ _ _ hb with ⟨e1, e2, e3⟩ | ⟨hl1, hb1⟩
    · rw [e3, ho] at hown; cases hown
    · rcases hr _ _ _ hb' with ⟨e1, e2, e3⟩ | ⟨hl2, hb2⟩
      · exfalso
        obtain ⟨blk, g, k⟩ := al _ _ hl1 a
        have q := h.rel.blk _ _ _ _ hb1 g
        have := h.their _ _ g
        rw [q.own, hown] at this
        cases this
      · exact h.rel.inj _ _ _ _ _ _ hb1 hb2 hown hB (al _ _ hl1 a) (al _ _ hl2 a')
  · simp only [St.theirs] at hb ⊢
    rw [if_neg (by omega)]
    exact h.wf b (by omega)
  · simp only [St.theirs] at hb
    unfold Ren.add
    rw [if_neg (by omega)]
    exact h.new b L (by omega)
  · simp only [St.theirs] at hb
    split at hb
    · cases hb; rfl
    · exact h.their _ _ hb
theorem Start.law {I : Prims} (h : Start P ρ S w) (hI : PrimSim P I) (hm : P.follows .mixedOrders = true) {f : Nat} {xs ys : Array Value} {u : Value} (hs : scalar u = true) (hx : VRL ρ xs.toList ys.toList)
    (hc : C P I f xs S fun v _ => v = u) : Calls P f ys w fun e w' => e = .returned u ∧ RowKit.Below w.heap.size w w' := by
  obtain ⟨v, S', ⟨k, hk⟩, rfl⟩ := hc
  exact law_of_run hI hm (hk k (Nat.le_refl _)) hs h.rel h.wf hx h.new h.low h.their
theorem step_below {w' : World} (h : Rel P ρ S w) (hb : RowKit.Below w.heap.size w w') : Step P ρ S w ρ S w' := by
  obtain ⟨b1, b2, b3, b4, b5⟩ := hb
  have hcell : ∀ B A v, B < w.heap.size → w.cell? ⟨B, A, none⟩ = some v → w'.cell? ⟨B, A, none⟩ = some v := by
    intro B A v hB hc
    unfold World.cell? at hc ⊢
    simp only [b5 B hB]
    exact hc
  refine ⟨Ren.le_refl ρ, ⟨b1, b2, b3⟩, ⟨h.glob, fun b L loc k => Nat.lt_of_lt_of_le (h.loc b L loc k) b4, fun b L loc blk k g => ?_, h.inj⟩, b4, Nat.le_refl _, Nat.le_refl _, fun b L loc h1 h2 => (by rw [h1] at h2; cases h2), fun m B _ _ hB _ => b5 B hB⟩
  have q := h.blk b L loc blk k g
  have hB := h.loc b L loc k
  refine ⟨q.own, fun o => ?_, fun a j v h1 h2 h3 => ?_, fun o e => by rw [b5 _ hB]; exact q.all o e⟩
  · obtain ⟨k1, k2, k3, k4⟩ := q.row o
    refine ⟨k1, k2, k3, ?_⟩
    rw [b5 _ hB]
    exact k4
  · obtain ⟨A, v', e1, e2, e3⟩ := q.cells a j v h1 h2 h3
    exact ⟨A, v', e1, hcell _ _ _ hB e2, e3⟩
structure Still (P : Program) (f : FuncId) (p : Array Value → St → Option Value) : Prop where
  sim : ∀ xs S v, p xs S = some v → ∀ (ρ : Ren) (w : World) (ys : Array Value), Rel P ρ S w → VRL ρ xs.toList ys.toList → Calls P f ys w fun e w' => ∃ cv, e = .returned cv ∧ VR ρ v cv ∧ RowKit.Below w.heap.size w w'
def stills (l : List (FuncId × (Nat → Array Value → St → Option Value))) : Prims := fun k f =>
  match l.find? (·.1 == f) with
  | some p => some fun xs S => (p.2 k xs S).map (·, S)
  | none => none
theorem stills_sim {l : List (FuncId × (Nat → Array Value → St → Option Value))} (h : ∀ x ∈ l, ∀ k, Still P x.1 (x.2 k)) : PrimSim P (stills l) := by
  have key : ∀ k f p, stills l k f = some p → ∃ q, Still P f q ∧ p = fun xs S => (q xs S).map (·, S) := by
    intro k f p hp
    unfold stills at hp
    split at hp
    · rename_i x hx
      cases hp
      have hm := List.mem_of_find?_eq_some hx
      have he := List.find?_some hx
      simp only [beq_iff_eq] at he
      subst he
      exact ⟨_, h x hm k, rfl⟩
    · cases hp
  refine ⟨fun k f p hp xs S v S' hr => ?_, fun k f p hp xs S v S' hr ρ w ys hrel _ hxs _ => ?_⟩
  · obtain ⟨q, _, rfl⟩ := key k f p hp
    obtain ⟨u, _, he⟩ := Option.map_eq_some_iff.1 hr
    cases he
    exact Mono.refl S
  · obtain ⟨q, hq, rfl⟩ := key k f p hp
    obtain ⟨u, hu, he⟩ := Option.map_eq_some_iff.1 hr
    cases he
    refine (hq.sim xs S v hu ρ w ys hrel hxs).mono ?_
    rintro e w' ⟨cv, rfl, hv, hb⟩
    exact ⟨ρ, cv, rfl, hv, step_below hrel hb⟩
end
end Go.Proofs.YtdmbgbennlnpcaaDoorAbs
namespace Go.Proofs.YtdmbgbennlnpcaaDoorAbs
set_option linter.unusedVariables false
set_option linter.unusedSimpArgs false
def blkOf : Value → Option Nat
  | .slice (some a) _ _ => some a.block
  | _ => none
theorem blkOf_nil (n c : Nat) : blkOf (.slice none n c) = none := rfl
def Own (elem size : Nat) (S : St) (v : Value) (n : Nat) (xs : List Value) : Prop :=
  xs.length = n * size ∧ xs.all oneC = true ∧ ((v = .slice none 0 0 ∧ n = 0) ∨ ∃ b m, v = .slice (some ⟨b, 0, some xs.length⟩) n (UNK + size) ∧ S.get b = some ⟨xs, elem, true, m⟩ ∧ m ≤ xs.length ∧ b < S.next ∧ 0 < n)
def Kept (S S' : St) (o : Option Nat) : Prop := S.next ≤ S'.next ∧ ∀ i, i < S.next → o ≠ some i → S'.get i = S.get i
theorem Kept.refl (S : St) (o : Option Nat) : Kept S S o := ⟨Nat.le_refl _, fun _ _ _ => rfl⟩
theorem Kept.trans {S S1 S2 : St} {o : Option Nat} (h : Kept S S1 o) (k : Kept S1 S2 o) : Kept S S2 o := ⟨Nat.le_trans h.1 k.1, fun i hi ho => (k.2 i (Nat.lt_of_lt_of_le hi h.1) ho).trans (h.2 i hi ho)⟩
theorem Kept.any {S S' : St} {o : Option Nat} (h : Kept S S' none) : Kept S S' o := ⟨h.1, fun i hi _ => h.2 i hi (by simp)⟩
theorem Kept.push {S : St} (b : Blk) (o : Option Nat) : Kept S (S.push b) o := ⟨Nat.le_succ _, fun i hi _ => S.get_push_lt b hi⟩
theorem Own.nil (elem size : Nat) (S : St) : Own elem size S (.slice none 0 0) 0 [] := ⟨by simp, rfl, .inl ⟨rfl, rfl⟩⟩
theorem Own.kept {elem size : Nat} {S S' : St} {v : Value} {n : Nat} {xs : List Value} {o : Option Nat} (h : Own elem size S v n xs) (k : Kept S S' o) (ho : o = none ∨ o ≠ blkOf v) : Own elem size S' v n xs := by
  refine ⟨h.1, h.2.1, ?_⟩
  rcases h.2.2 with h' | ⟨b, m, rfl, h1, h2, h3, h4⟩
  · exact .inl h'
  · refine .inr ⟨b, m, rfl, ?_, h2, Nat.lt_of_lt_of_le h3 k.1, h4⟩
    rw [k.2 b h3 (by rcases ho with rfl | ho
                     · simp
                     · simpa [blkOf] using ho)]
    exact h1
section
variable {P : Program} {I : Prims} {ops : Array Oper} {r : List Oper} {Q : Env → St → Prop} {e : Env} {S : St} {dst : Option Tmp} {ty : TypeId} {pos : String} {after : Array Edge}
theorem own_slice {S : St} {elem size n : Nat} {v : Value} {xs : List Value} (h : Own elem size S v n xs) : ∃ a c, v = .slice a n c := by
  rcases h.2.2 with ⟨rfl, rfl⟩ | ⟨b, m, rfl, _⟩
  · exact ⟨_, _, rfl⟩
  · exact ⟨_, _, rfl⟩
theorem asrc_own {tx t elem size n : Nat} {v : Value} {xs : List Value} (h : Own elem size S v n xs) (hu : P.underlying tx = some (.slice t)) : asrc P S tx size v = some (n, xs) := by
  obtain ⟨h0, h1, h2⟩ := h
  rcases h2 with ⟨rfl, rfl⟩ | ⟨b, m, rfl, h2, h3, h4, h5⟩
  · have : xs = [] := by simpa using h0
    subst this
    simp [asrc, hu]
  · simp only [asrc, hu]
    rw [if_neg (by omega)]
    have : aread S ⟨b, 0, some xs.length⟩ (n * size) = some xs := by
      unfold aread
      simp only [h2]
      rw [if_pos ⟨fun _ => ⟨h3, by simp; omega⟩, by simp; omega⟩, List.drop_zero, ← h0, List.take_length]
    simp only [this, h1, if_true]
theorem asrc_theirs {tx t size b o L n c : Nat} {cs : List Value} {el m : Nat} (hu : P.underlying tx = some (.slice t)) (hb : S.get b = some ⟨cs, el, false, m⟩) (hl : o + n * size ≤ cs.length) (h1 : cs.all oneC = true) :
    asrc P S tx size (.slice (some ⟨b, o, some L⟩) n c) = some (n, (cs.drop o).take (n * size)) := by
  simp only [asrc, hu]
  by_cases hn : n = 0
  · subst hn
    simp
  · rw [if_neg hn]
    have : aread S ⟨b, o, some L⟩ (n * size) = some ((cs.drop o).take (n * size)) := by
      unfold aread
      simp only [hb]
      rw [if_pos ⟨fun h => (by cases h), hl⟩]
    simp only [this]
    rw [if_pos]
    rw [List.all_eq_true] at h1 ⊢
    exact fun x hx => h1 x (List.mem_of_mem_drop (List.mem_of_mem_take hx))
theorem append_own {t tx elem size bytes n m : Nat} {z v x : Value} {xs ys : List Value} (hu : P.underlying t = some (.slice elem)) (hs : asize P elem = some size) (hb : abytes P elem = some bytes) (hz : azero P elem = some z)
    (hc : 0 < size ∧ 0 < bytes ∧ z.cells.size = size) (ho : Own elem size S v n xs) (hx : asrc P S tx size x = some (m, ys)) (hy : ys.length = m * size ∧ ys.all oneC = true) (hl : (3 * (n + m) + 2048) * bytes ≤ 281474976710656) :
    ∃ v' S', aappend P S t tx v x = some (v', S') ∧ Own elem size S' v' (n + m) (xs ++ ys) ∧ Kept S S' (blkOf v) ∧ (blkOf v' = blkOf v ∨ ∃ i, S.next ≤ i ∧ blkOf v' = some i) := by
  obtain ⟨h0, h1, h2⟩ := ho
  have hlen : (xs ++ ys).length = (n + m) * size := by rw [List.length_append, h0, hy.1, Nat.add_mul]
  have hall : (xs ++ ys).all oneC = true := by rw [List.all_append, h1, hy.2]; rfl
  by_cases hm : m = 0
  · subst hm
    have : ys = [] := by simpa using hy.1
    subst this
    refine ⟨v, S, ?_, by simpa using ⟨h0, by simpa using h1, h2⟩, Kept.refl S _, .inl rfl⟩
    rcases h2 with ⟨rfl, rfl⟩ | ⟨b, m', rfl, h2, h3, h4, h5⟩
    · simp [aappend, hu, hs, hb, hz, hc, hx]
    · simp [aappend, hu, hs, hb, hz, hc, hx]
  · rcases h2 with ⟨rfl, rfl⟩ | ⟨b, m', rfl, h2, h3, h4, h5⟩
    · have : xs = [] := by simpa using h0
      subst this
      simp only [Nat.zero_add] at hl hlen
      refine ⟨_, _, ?_, ⟨hlen.trans (by simp), by simpa using hy.2, .inr ⟨S.next, 0, rfl, ?_, Nat.zero_le _, ?_, by omega⟩⟩, Kept.push ⟨ys, elem, true, 0⟩ _, .inr ⟨S.next, Nat.le_refl _, rfl⟩⟩
      · simp only [aappend, hu, hs, hb, hz, hc, hx, and_self, if_true, if_neg hm]
        rw [if_pos hl]
        simp
      · simpa using S.get_push_self _
      · simp
    · refine ⟨_, _, ?_, ⟨hlen, hall, .inr ⟨b, m', rfl, S.get_upd_self b _, ?_, h4, by omega⟩⟩, ⟨Nat.le_refl _, fun i hi hne => S.get_upd_ne _ (fun e => hne (by simp [blkOf, e]))⟩, .inl rfl⟩
      · simp only [aappend, hu, hs, hb, hz, hc, hx, and_self, if_true, if_neg hm, h2]
        rw [if_pos ⟨trivial, trivial, h3, by simp [h0], h4, trivial, hl⟩]
        simp [List.length_append]
      · rw [List.length_append]; omega
theorem O_append {s x : Operand} {t tx elem size bytes n m : Nat} {z : Value} {xs ys : List Value} (hu : P.underlying t = some (.slice elem)) (hs : asize P elem = some size) (hb : abytes P elem = some bytes) (hz : azero P elem = some z)
    (hc : 0 < size ∧ 0 < bytes ∧ z.cells.size = size) (ho : Own elem size S (e.ev s) n xs) (hx : asrc P S tx size (e.ev x) = some (m, ys)) (hy : ys.length = m * size ∧ ys.all oneC = true) (hl : (3 * (n + m) + 2048) * bytes ≤ 281474976710656)
    (hk : ∀ v' S', Own elem size S' v' (n + m) (xs ++ ys) → Kept S S' (blkOf (e.ev s)) → (blkOf v' = blkOf (e.ev s) ∨ ∃ i, S.next ≤ i ∧ blkOf v' = some i) → O P I ops r [] Q (e.putO dst v') S') :
    O P I ops (⟨dst, .call ⟨.builtin .append, #[s, x], #[t, tx]⟩, ty, pos, after, none⟩ :: r) [] Q e S := by
  obtain ⟨v', S', h1, h2, h3, h4⟩ := append_own hu hs hb hz hc ho hx hy hl
  rw [O_step rfl]
  have : aop P e.ev ⟨dst, .call ⟨.builtin .append, #[s, x], #[t, tx]⟩, ty, pos, after, none⟩ S = some (v', S') := by
    rw [aop_builtin]
    show alt (aappend P S t tx (e.ev s) (e.ev x)) _ = _
    rw [h1, alt_some]
  rw [this]
  exact ⟨rfl, hk v' S' h2 h3 h4⟩
def isStop : Op → Bool
  | .call ⟨.value _, _, _⟩ => true
  | .call ⟨.builtin .append, _, _⟩ => true
  | _ => false
theorem O_go {op : Op} (h : isStop op = false) : O P I ops (⟨dst, op, ty, pos, after, none⟩ :: r) [] Q e S = (okO (aop P e.ev ⟨dst, op, ty, pos, after, none⟩ S) ∧ O P I ops r [] Q (e.putO dst (vO (aop P e.ev ⟨dst, op, ty, pos, after, none⟩ S))) (sO (aop P e.ev ⟨dst, op, ty, pos, after, none⟩ S))) := by
  refine O_step ?_
  cases op
  case call c =>
    obtain ⟨callee, args, ts⟩ := c
    cases callee
    case value f => cases h
    all_goals rfl
  all_goals rfl
theorem W_drawn {id : Nat} {l : List Oper} {K : AExit → Env → St → Prop} {fl : List Bool} (h : flagsOf l.toArray = fl) (k : O P I l.toArray l fl (K .normal) e S) (hs : softB l.toArray = false := by decide +kernel) : W P I (.region id l.toArray true) K e S := by
  subst h
  show O P I l.toArray l (rFl l.toArray true) (rQ l.toArray true (K .normal)) e S
  have e1 : rFl l.toArray true = flagsOf l.toArray := by simp [rFl, hs]
  rw [e1]
  exact O_mono (fun e S k => ⟨(fun q => by rw [hs] at q; cases q), k⟩) _ _ k
def seps (ops : Array Oper) : List (Tmp × Tmp) := (List.range ops.size).flatMap fun s => if stAt ops s = true then (List.range ops.size).filterMap fun i => if i == s then none else (match adrAt ops i, adrAt ops s with | some x, some y => some (x, y) | _, _ => none) else []
def SepL : List (Tmp × Tmp) → Env → Prop
  | [], _ => True
  | (x, y) :: r, e => blkV (e.get x) ≠ blkV (e.get y) ∧ SepL r e
theorem SepL.mem {e : Env} : ∀ {ps : List (Tmp × Tmp)}, SepL ps e → ∀ p ∈ ps, blkV (e.get p.1) ≠ blkV (e.get p.2)
  | [], _, p, h => by cases h
  | (x, y) :: r, h, p, hp => by
    rcases List.mem_cons.1 hp with rfl | hp
    · exact h.1
    · exact SepL.mem h.2 p hp
theorem sep_of {ops : Array Oper} {e : Env} (h : SepL (seps ops) e) : sepB ops e = true := by
  unfold sepB
  rw [List.all_eq_true]
  intro s hs
  cases hst : stAt ops s with
  | false => rfl
  | true =>
    rw [Bool.not_true, Bool.false_or, List.all_eq_true]
    intro i hi
    cases hi2 : (i == s) with
    | true => rfl
    | false =>
      rw [Bool.false_or]
      cases hx : adrAt ops i with
      | none => rfl
      | some x =>
        cases hy : adrAt ops s with
        | none => rfl
        | some y =>
          have := h.mem (x, y) (List.mem_flatMap.2 ⟨s, hs, by rw [if_pos hst]; exact List.mem_filterMap.2 ⟨i, hi, by rw [hi2, hx, hy]; rfl⟩⟩)
          simpa using this
def SepK (ps : List (Tmp × Tmp)) (R : Env → St → Prop) : Env → St → Prop := fun e S => SepL ps e ∧ R e S
theorem SepK_intro {ps : List (Tmp × Tmp)} {R : Env → St → Prop} (h : SepL ps e) (k : R e S) : SepK ps R e S := ⟨h, k⟩
theorem W_soft {id : Nat} {l : List Oper} {K : AExit → Env → St → Prop} {fl : List Bool} {ps : List (Tmp × Tmp)} (h : softFl l.toArray = fl) (hp : seps l.toArray = ps) (hs : softB l.toArray = true) (k : O P I l.toArray l fl (SepK ps (K .normal)) e S) : W P I (.region id l.toArray true) K e S := by
  subst h hp
  show O P I l.toArray l (rFl l.toArray true) (rQ l.toArray true (K .normal)) e S
  have e1 : rFl l.toArray true = softFl l.toArray := by simp [rFl, hs]
  rw [e1]
  exact O_mono (fun e S k => ⟨fun _ => sep_of k.1, k.2⟩) _ _ k
theorem O_end : O P I ops [] [] Q e S = Q e S := rfl
section
variable {fl : List Bool}
theorem O_goF {op : Op} (h : isStop op = false) : O P I ops (⟨dst, op, ty, pos, after, none⟩ :: r) (false :: fl) Q e S = (okO (aop P e.ev ⟨dst, op, ty, pos, after, none⟩ S) ∧ O P I ops r fl Q (e.putO dst (vO (aop P e.ev ⟨dst, op, ty, pos, after, none⟩ S))) (sO (aop P e.ev ⟨dst, op, ty, pos, after, none⟩ S))) := by
  rw [O]
  simp only [wants, if_true, List.headD_cons, List.tail_cons]
  have e1 : ∀ o : Option (Value × St), (∃ v S', o = some (v, S') ∧ O P I ops r fl Q (e.putO dst v) S') ↔ (okO o ∧ O P I ops r fl Q (e.putO dst (vO o)) (sO o)) := by
    intro o
    cases o with
    | none => exact ⟨fun ⟨_, _, h, _⟩ => (by cases h), fun h => (by cases h.1)⟩
    | some q => exact ⟨fun ⟨v, S', h, k⟩ => (by cases h; exact ⟨rfl, k⟩), fun h => ⟨q.1, q.2, rfl, h.2⟩⟩
  cases op
  case call c =>
    obtain ⟨callee, args, ts⟩ := c
    cases callee
    case value f => cases h
    all_goals exact propext (e1 _)
  all_goals exact propext (e1 _)
theorem O_goT {op : Op} (h : (isStop op || isP op) = false) : O P I ops (⟨dst, op, ty, pos, after, none⟩ :: r) (true :: fl) Q e S = (okO (aop P e.ev ⟨dst, op, ty, pos, after, none⟩ (S.withLow S.next)) ∧
    S.next ≤ (sO (aop P e.ev ⟨dst, op, ty, pos, after, none⟩ (S.withLow S.next))).low ∧ O P I ops r fl Q (e.putO dst (vO (aop P e.ev ⟨dst, op, ty, pos, after, none⟩ (S.withLow S.next)))) ((sO (aop P e.ev ⟨dst, op, ty, pos, after, none⟩ (S.withLow S.next))).withLow S.low)) := by
  rw [O]
  simp only [wants, if_true, List.headD_cons, List.tail_cons]
  have e1 : ∀ o : Option (Value × St), (∃ v S', o = some (v, S') ∧ S.next ≤ S'.low ∧ O P I ops r fl Q (e.putO dst v) (S'.withLow S.low)) ↔ (okO o ∧ S.next ≤ (sO o).low ∧ O P I ops r fl Q (e.putO dst (vO o)) ((sO o).withLow S.low)) := by
    intro o
    cases o with
    | none => exact ⟨fun ⟨_, _, h, _⟩ => (by cases h), fun h => (by cases h.1)⟩
    | some q => exact ⟨fun ⟨v, S', h, k⟩ => (by cases h; exact ⟨rfl, k⟩), fun h => ⟨q.1, q.2, rfl, h.2⟩⟩
  cases op
  case call c =>
    obtain ⟨callee, args, ts⟩ := c
    cases callee
    case value f => simp [isStop] at h
    all_goals exact propext (e1 _)
  all_goals exact propext (e1 _)
theorem aop_pure {op : Op} {ev : Operand → Value} (h : isP op = true) (S2 : St) : aop P ev ⟨dst, op, ty, pos, after, none⟩ S2 = (aop P ev ⟨dst, op, ty, pos, after, none⟩ S).map fun q => (q.1, S2) := by
  have e1 : ∀ S, arun P (fun _ _ _ => none) ev ⟨dst, op, ty, pos, after, none⟩ S = aop P ev ⟨dst, op, ty, pos, after, none⟩ S := by
    intro S
    unfold arun
    split
    · rename_i hop
      simp only at hop
      rw [hop] at h
      simp [isP] at h
    · rfl
  cases hA : aop P ev ⟨dst, op, ty, pos, after, none⟩ S with
  | some q =>
    obtain ⟨v, S'⟩ := q
    rw [← e1] at hA
    have := (pure_run (o := ⟨dst, op, ty, pos, after, none⟩) h hA).2 S2
    rw [e1] at this
    exact this
  | none =>
    cases hB : aop P ev ⟨dst, op, ty, pos, after, none⟩ S2 with
    | none => rfl
    | some q =>
      obtain ⟨v, S'⟩ := q
      rw [← e1] at hB
      have := (pure_run (o := ⟨dst, op, ty, pos, after, none⟩) h hB).2 S
      rw [e1, hA] at this
      cases this
theorem O_pure {op : Op} (h : isP op = true) : O P I ops (⟨dst, op, ty, pos, after, none⟩ :: r) (true :: fl) Q e S = (okO (aop P e.ev ⟨dst, op, ty, pos, after, none⟩ S) ∧ O P I ops r fl Q (e.putO dst (vO (aop P e.ev ⟨dst, op, ty, pos, after, none⟩ S))) S) := by
  rw [O]
  simp only [wants, if_true, List.headD_cons, List.tail_cons]
  have e1 : (∃ v S', aop P e.ev ⟨dst, op, ty, pos, after, none⟩ (S.withLow S.next) = some (v, S') ∧ S.next ≤ S'.low ∧ O P I ops r fl Q (e.putO dst v) (S'.withLow S.low)) ↔ (okO (aop P e.ev ⟨dst, op, ty, pos, after, none⟩ S) ∧ O P I ops r fl Q (e.putO dst (vO (aop P e.ev ⟨dst, op, ty, pos, after, none⟩ S))) S) := by
    rw [aop_pure (S := S) h (S.withLow S.next)]
    cases hA : aop P e.ev ⟨dst, op, ty, pos, after, none⟩ S with
    | none => exact ⟨fun ⟨_, _, h, _⟩ => (by cases h), fun h => (by cases h.1)⟩
    | some q => exact ⟨fun ⟨v, S', h, _, k⟩ => (by cases h; exact ⟨rfl, k⟩), fun h => ⟨q.1, S.withLow S.next, rfl, Nat.le_refl _, h.2⟩⟩
  cases op
  case call c =>
    obtain ⟨callee, args, ts⟩ := c
    cases callee
    case value f => cases h
    all_goals exact propext e1
  all_goals exact propext e1
def OKF (P : Program) (I : Prims) (ops : Array Oper) (r : List Oper) (fl : List Bool) (Q : Env → St → Prop) (dst : Option Tmp) (e : Env) : Value → St → Prop := fun v S' => O P I ops r fl Q (e.putO dst v) S'
theorem OKF_ap {fl : List Bool} {v : Value} {S' : St} : OKF P I ops r fl Q dst e v S' = O P I ops r fl Q (e.putO dst v) S' := rfl
theorem OK_ap {v : Value} {S' : St} : OK P I ops r Q dst e v S' = O P I ops r [] Q (e.putO dst v) S' := rfl
theorem O_callF {f : Operand} {args : Array Operand} {ts : Array TypeId} : O P I ops (⟨dst, .call ⟨.value f, args, ts⟩, ty, pos, after, none⟩ :: r) (false :: fl) Q e S =
    ((acallee (e.ev f) (args.map e.ev)).isSome = true ∧ callable P (callF (e.ev f) (args.map e.ev)) = true ∧ C P I (callF (e.ev f) (args.map e.ev)) (callX (e.ev f) (args.map e.ev)) S (OKF P I ops r fl Q dst e)) := by
  rw [O]
  simp only [wants, if_true, List.headD_cons, List.tail_cons, callF, callX]
  refine propext ⟨?_, ?_⟩
  · rintro ⟨g, xs, h1, h2, h3⟩
    rw [h1]
    exact ⟨rfl, h2, h3⟩
  · rintro ⟨h1, h2, h3⟩
    obtain ⟨q, hq⟩ := Option.isSome_iff_exists.1 h1
    rw [hq] at h2 h3
    exact ⟨q.1, q.2, hq, h2, h3⟩
theorem O_appendF {s x : Operand} {t tx elem size bytes n m : Nat} {z : Value} {xs ys : List Value} (hu : P.underlying t = some (.slice elem)) (hs : asize P elem = some size) (hb : abytes P elem = some bytes) (hz : azero P elem = some z)
    (hc : 0 < size ∧ 0 < bytes ∧ z.cells.size = size) (ho : Own elem size S (e.ev s) n xs) (hx : asrc P S tx size (e.ev x) = some (m, ys)) (hy : ys.length = m * size ∧ ys.all oneC = true) (hl : (3 * (n + m) + 2048) * bytes ≤ 281474976710656)
    (hk : ∀ v' S', Own elem size S' v' (n + m) (xs ++ ys) → Kept S S' (blkOf (e.ev s)) → (blkOf v' = blkOf (e.ev s) ∨ ∃ i, S.next ≤ i ∧ blkOf v' = some i) → O P I ops r fl Q (e.putO dst v') S') :
    O P I ops (⟨dst, .call ⟨.builtin .append, #[s, x], #[t, tx]⟩, ty, pos, after, none⟩ :: r) (false :: fl) Q e S := by
  obtain ⟨v', S', h1, h2, h3, h4⟩ := append_own hu hs hb hz hc ho hx hy hl
  unfold O
  rw [if_pos (show wants ops ⟨dst, .call ⟨.builtin .append, #[s, x], #[t, tx]⟩, ty, pos, after, none⟩ e = true from rfl)]
  refine ⟨v', S', ?_, hk v' S' h2 h3 h4⟩
  rw [aop_builtin]
  show alt (aappend P S t tx (e.ev s) (e.ev x)) _ = _
  rw [h1, alt_some]
end
theorem pkX_t (a b : Value) : pkX (.bool true) a b = some a := rfl
theorem pkX_f (a b : Value) : pkX (.bool false) a b = some b := rfl
theorem upd_upd (S : St) (i : Nat) (b b' : Blk) : (S.upd i b).upd i b' = S.upd i b' := by
  unfold St.upd
  congr 1
  · funext j
    by_cases e : j = i
    · simp [e]
    · simp [e]
  · show min (min S.low i) i = min S.low i
    omega
def gb : Value → Bool → Bool
  | .bool c, b => c == b
  | _, _ => false
theorem gb_bool (c b : Bool) : gb (.bool c) b = (c == b) := rfl
def gt (t : Option Tmp) (b : Bool) (e : Env) : Bool := match t with
  | some t => gb (e.get t) b
  | none => false
theorem gt_some (t : Tmp) (b : Bool) : gt (some t) b e = gb (e.get t) b := rfl
theorem O_guarded {op : Op} {g : Nat} {b : Bool} {fl : List Bool} {l : List Oper} : O P I l.toArray (⟨dst, op, ty, pos, after, some (g, b)⟩ :: r) fl Q e S =
    if gt ((l[g]?).bind (·.dst)) b e = true then O P I l.toArray (⟨dst, op, ty, pos, after, none⟩ :: r) fl Q e S else O P I l.toArray r fl.tail Q (e.putO dst undef) S := by
  have hw : wants l.toArray ⟨dst, op, ty, pos, after, some (g, b)⟩ e = gt ((l[g]?).bind (·.dst)) b e := by
    unfold wants gt
    simp only [List.getElem?_toArray]
    cases (l[g]?).bind (·.dst) with
    | none => rfl
    | some t =>
      show (match e.get t with | .bool c => c == b | _ => false) = gb (e.get t) b
      cases e.get t <;> rfl
  by_cases h : gt ((l[g]?).bind (·.dst)) b e = true
  · rw [if_pos h]
    rw [h] at hw
    unfold O
    rw [if_pos hw, if_pos (show wants l.toArray ⟨dst, op, ty, pos, after, none⟩ e = true from rfl)]
    rfl
  · rw [if_neg h]
    rw [O]
    rw [if_neg (by rw [hw]; exact h)]
theorem Kept.new {S0 S1 S2 : St} {o : Option Nat} (h : Kept S0 S1 none) (k : Kept S1 S2 o) (ho : ∀ j, o = some j → S0.next ≤ j) : Kept S0 S2 none :=
  ⟨Nat.le_trans h.1 k.1, fun i hi _ => (k.2 i (Nat.lt_of_lt_of_le hi h.1) (fun e => by have := ho i e; omega)).trans (h.2 i hi (by simp))⟩
theorem Kept.upd {S0 S1 : St} (h : Kept S0 S1 none) {i : Nat} (hi : S0.next ≤ i) (b : Blk) : Kept S0 (S1.upd i b) none :=
  ⟨h.1, fun j hj _ => (S1.get_upd_ne b (by omega)).trans (h.2 j hj (by simp))⟩
theorem Kept.get {S0 S1 : St} (h : Kept S0 S1 none) {i : Nat} {o : Option Blk} (hi : i < S0.next) (hg : S0.get i = o) : S1.get i = o := (h.2 i hi (by simp)).trans hg
theorem blk_new {S1 : St} {v' : Value} {o : Option Nat} {N : Nat} (hB : blkOf v' = o ∨ ∃ i, S1.next ≤ i ∧ blkOf v' = some i) (hv : ∀ q, o = some q → N ≤ q) (hN : N ≤ S1.next) : ∀ q, blkOf v' = some q → N ≤ q := by
  intro q hq
  rcases hB with h | ⟨i, hi, h⟩
  · exact hv q (h ▸ hq)
  · rw [h] at hq; cases hq; omega
theorem withLow_withLow (S : St) (a b : Nat) : (S.withLow a).withLow b = S.withLow b := rfl
theorem withLow_low (S : St) : S.withLow S.low = S := rfl
theorem push_withLow (S : St) (l : Nat) (b : Blk) : (S.withLow l).push b = (S.push b).withLow l := rfl
theorem push_withLow_low (S : St) (b : Blk) : (S.push b).withLow S.low = S.push b := rfl
theorem aload_withLow (S : St) (l t : Nat) (v : Value) : aload P (S.withLow l) t v = aload P S t v := rfl
theorem cells_agg (cs : Array Value) : (Value.agg cs).cells = cs := rfl
theorem cells_int (k : IntKind) (n : Int) : (Value.int k n).cells = #[.int k n] := rfl
theorem cells_bool (b : Bool) : (Value.bool b).cells = #[.bool b] := rfl
theorem cells_string (s : ByteArray) : (Value.string s).cells = #[.string s] := rfl
theorem cells_slice (a : Option Addr) (n c : Nat) : (Value.slice a n c).cells = #[.slice a n c] := rfl
theorem cells_pointer (a : Option Addr) : (Value.pointer a).cells = #[.pointer a] := rfl
theorem cells_iface (t : TypeId) (v : Value) : (Value.iface t v).cells = #[.iface t v] := rfl
theorem cells_nilIface : Value.nilIface.cells = #[.nilIface] := rfl
theorem ptrAt_eq (b L : Nat) : ptrAt b L = .pointer (some ⟨b, 0, some L⟩) := rfl
def cellAt : Option Blk → Nat → Nat → Option Value
  | some blk, o, L => if blk.own = true → blk.min ≤ L ∧ o + 1 ≤ L then blk.cells[o]? else none
  | none, _, _ => none
theorem cellAt_own {cs : List Value} {el m o L : Nat} (h : m ≤ L) (h1 : o + 1 ≤ L) : cellAt (some ⟨cs, el, true, m⟩) o L = cs[o]? := by
  show (if true = true → m ≤ L ∧ o + 1 ≤ L then cs[o]? else none) = _
  rw [if_pos fun _ => ⟨h, h1⟩]
theorem cellAt_their {cs : List Value} {el m o L : Nat} : cellAt (some ⟨cs, el, false, m⟩) o L = cs[o]? := by
  show (if false = true → m ≤ L ∧ o + 1 ≤ L then cs[o]? else none) = _
  rw [if_pos fun h => by cases h]
theorem aload_cell {t b o L : Nat} (ha : isAgg? P t = some false) : aload P S t (.pointer (some ⟨b, o, some L⟩)) = cellAt (S.get b) o L := by
  unfold aload
  simp only [ha]
  unfold aread cellAt
  cases hb : S.get b with
  | none => rfl
  | some blk =>
    simp only
    by_cases hk : blk.own = true → blk.min ≤ L ∧ o + 1 ≤ L
    · rw [if_pos hk]
      by_cases hl : o + 1 ≤ blk.cells.length
      · rw [if_pos ⟨hk, hl⟩, List.take_one, List.head?_drop]
        have : blk.cells[o]? = some blk.cells[o] := List.getElem?_eq_getElem (by omega)
        rw [this]
        rfl
      · rw [if_neg (fun q => hl q.2), List.getElem?_eq_none (by omega)]
    · rw [if_neg (fun q => hk q.1), if_neg hk]
def rowAt (b : Option Blk) (o n L : Nat) : Option Value :=
  match b with
  | some blk => if (blk.own = true → blk.min ≤ L ∧ o + n ≤ L) ∧ o + n ≤ blk.cells.length then some (.agg ((blk.cells.drop o).take n).toArray) else none
  | none => none
theorem rowAt_own {cs : List Value} {el m o n L : Nat} (h : m ≤ L) (h1 : o + n ≤ L) (h2 : o + n ≤ cs.length) : rowAt (some ⟨cs, el, true, m⟩) o n L = some (.agg ((cs.drop o).take n).toArray) := by
  simp only [rowAt]
  rw [if_pos ⟨fun _ => ⟨h, h1⟩, h2⟩]
theorem rowAt_their {cs : List Value} {el m o n L : Nat} (h2 : o + n ≤ cs.length) : rowAt (some ⟨cs, el, false, m⟩) o n L = some (.agg ((cs.drop o).take n).toArray) := by
  simp only [rowAt]
  rw [if_pos ⟨fun h => (by cases h), h2⟩]
theorem aload_row {t b o L n : Nat} (ha : isAgg? P t = some true) (hn : asize P t = some n) : aload P S t (.pointer (some ⟨b, o, some L⟩)) = rowAt (S.get b) o n L := by
  unfold aload rowAt
  simp only [ha, hn]
  unfold aread
  cases hb : S.get b with
  | none => rfl
  | some blk =>
    simp only
    split <;> split <;> simp_all
def storeAt (S : St) (b : Nat) (blk : Option Blk) (o L : Nat) (vs : Array Value) : Option St :=
  match blk with
  | some blk => if blk.own = true ∧ L = blk.cells.length ∧ blk.min ≤ L ∧ o + vs.size ≤ L ∧ b < S.next ∧ vs.toList.all oneC = true then
      some (S.upd b { blk with cells := blk.cells.take o ++ vs.toList ++ blk.cells.drop (o + vs.size), min := blk.cells.length }) else none
  | none => none
theorem storeAt_own {cs : List Value} {b el m o L : Nat} {vs : Array Value} (hL : L = cs.length) (h : m ≤ L) (h1 : o + vs.size ≤ L) (h2 : b < S.next) (h3 : vs.toList.all oneC = true) :
    storeAt S b (some ⟨cs, el, true, m⟩) o L vs = some (S.upd b ⟨cs.take o ++ vs.toList ++ cs.drop (o + vs.size), el, true, cs.length⟩) := by
  simp only [storeAt]
  rw [if_pos ⟨trivial, hL, h, h1, h2, h3⟩]
theorem astore_cell {t b o L n : Nat} {v : Value} (hn : asize P t = some n) (hs : n = v.cells.size) : astore P S t (.pointer (some ⟨b, o, some L⟩)) v = storeAt S b (S.get b) o L v.cells := by
  subst hs
  unfold astore
  simp only [hn, if_true]
  unfold awrite storeAt
  cases hb : S.get b with
  | none => rfl
  | some blk => simp
theorem astore_if {t b o L : Nat} {v : Value} : astore P S t (.pointer (some ⟨b, o, some L⟩)) v = if asize P t = some v.cells.size then storeAt S b (S.get b) o L v.cells else none := by
  split
  · rename_i h
    exact astore_cell h rfl
  · rename_i h
    unfold astore
    simp only [if_neg h]
theorem aindexAddr_slice {t elem size b o L n c : Nat} {k : IntKind} {i : Int} (hu : P.underlying t = some (.slice elem)) (hs : asize P elem = some size) (h0 : 0 ≤ i) (h1 : i < n) :
    aindexAddr P t (.slice (some ⟨b, o, some L⟩) n c) (.int k i) = some (.pointer (some ⟨b, o + i.toNat * size, some L⟩)) := by
  simp only [aindexAddr, hu, hs]
  rw [if_pos ⟨h0, h1⟩]
theorem aindexAddr_array {t elem size b o L n : Nat} {k : IntKind} {i : Int} (hu : P.underlying t = some (.array n elem)) (hs : asize P elem = some size) (h0 : 0 ≤ i) (h1 : i < n) :
    aindexAddr P t (.pointer (some ⟨b, o, some L⟩)) (.int k i) = some (.pointer (some ⟨b, o + i.toNat * size, some L⟩)) := by
  simp only [aindexAddr, hu, hs]
  rw [if_pos ⟨h0, h1⟩]
theorem unk_le (n : Nat) : UNK ≤ UNK + n := Nat.le_add_right _ _
theorem aslice_h {t elem size n : Nat} {a : Addr} {k : IntKind} {j : Int} (hu : P.underlying t = some (.slice elem)) (hs : asize P elem = some size) (h0 : 0 ≤ j) (h1 : j ≤ n) :
    aslice P t (.slice (some a) n (UNK + size)) none (some (.int k j)) none = some (.slice (some a) j.toNat (UNK + size)) := by
  have h2 : j.toNat ≤ n := by omega
  simp [aslice, anat, if_pos h0, hu, hs, unk_le, abounds, h2, asub]
theorem aslice_l {t elem size b o n : Nat} {s : Option Nat} {k : IntKind} {j : Int} (hu : P.underlying t = some (.slice elem)) (hs : asize P elem = some size) (h0 : 0 ≤ j) (h1 : j ≤ n) :
    aslice P t (.slice (some ⟨b, o, s⟩) n (UNK + size)) (some (.int k j)) none none = some (.slice (some ⟨b, o + j.toNat * size, s⟩) (n - j.toNat) (UNK + size)) := by
  have h2 : j.toNat ≤ n := by omega
  simp [aslice, anat, if_pos h0, hu, hs, unk_le, abounds, h2, asub]
theorem aslice_lh {t elem size b o n : Nat} {s : Option Nat} {k k' : IntKind} {i j : Int} (hu : P.underlying t = some (.slice elem)) (hs : asize P elem = some size) (h0 : 0 ≤ i) (h1 : i ≤ j) (h2 : j ≤ n) :
    aslice P t (.slice (some ⟨b, o, s⟩) n (UNK + size)) (some (.int k i)) (some (.int k' j)) none = some (.slice (some ⟨b, o + i.toNat * size, s⟩) (j.toNat - i.toNat) (UNK + size)) := by
  have h3 : j.toNat ≤ n := by omega
  have h4 : i.toNat ≤ j.toNat := by omega
  have h5 : 0 ≤ j := by omega
  simp [aslice, anat, if_pos h0, if_pos h5, hu, hs, unk_le, abounds, h3, h4, asub]
theorem abuiltin_len {t elem n c : Nat} {a : Option Addr} (hu : P.underlying t = some (.slice elem)) : abuiltin P S .len [t] [.slice a n c] = some (goInt n, S) := by
  simp [abuiltin, kSlice, hu]
end
end Go.Proofs.YtdmbgbennlnpcaaDoorAbs
namespace Go.Proofs.YtdmbgbennlnpcaaDoorAbs
set_option linter.unusedVariables false
set_option linter.unusedSimpArgs false
def cellsAt (size : Nat) (S : St) : Value → Option (List Value)
  | .slice none 0 0 => some []
  | .slice (some ⟨b, o, some L⟩) n _ => if n = 0 then some [] else
    match aread S ⟨b, o, some L⟩ (n * size) with
    | some cs => if cs.all leaf = true ∧ 0 < size then some cs else none
    | none => none
  | _ => none
theorem rel_aread {P : Program} {ρ : Ren} {S : St} {w : World} (h : Rel P ρ S w) {b o L n : Nat} {loc : Loc} {cs : List Value} (hb : ρ b L = some loc) (hlo : loc.lo ≤ o) (hr : aread S ⟨b, o, some L⟩ n = some cs) :
    cs.length = n ∧ ∀ (j : Nat) (v : Value), cs[j]? = some v → ∃ (A : Nat) (v' : Value), (A : Int) = loc.base + (o + j : Nat) ∧ w.cell? ⟨loc.B, A, none⟩ = some v' ∧ VR ρ v v' := by
  unfold aread at hr
  split at hr
  case h_2 => cases hr
  rename_i L' blk e1 e2
  cases e1
  split at hr
  case isFalse => cases hr
  rename_i hc
  cases hr
  have q := h.blk _ _ _ _ hb e2
  have hc2 : o + n ≤ blk.cells.length := hc.2
  refine ⟨by simp; omega, fun j v hj => ?_⟩
  rw [List.getElem?_take] at hj
  split at hj
  case isFalse => cases hj
  rename_i hjn
  rw [List.getElem?_drop] at hj
  have ho := q.own
  exact q.cells (fun k => (hc.1 (ho.trans k)).1) (o + j) v (by omega) (fun k => by have := (hc.1 (ho.trans k)).2; simp only at this; omega) hj
theorem cellsAt_sim {P : Program} {ρ : Ren} {S : St} {w : World} {size : Nat} {v v' : Value} {cs : List Value} (h : Rel P ρ S w) (hv : VR ρ v v') (hc : cellsAt size S v = some cs) :
    ∃ A n C, v' = .slice A n C ∧ n ≤ C ∧ cs.length = n * size ∧ (∀ (j : Nat) (u : Value), cs[j]? = some u → ∃ ad, A = some ad ∧ w.cell? (ad.add j) = some u) ∧ ∃ a c, v = .slice a n c := by
  unfold cellsAt at hc
  split at hc
  · cases hc
    obtain rfl := hv.leaf_eq rfl
    exact ⟨none, 0, 0, rfl, Nat.le_refl _, by simp, fun j u hj => by simp at hj, _, _, rfl⟩
  · rename_i b o L n c
    split at hc
    · rename_i hn
      subst hn
      cases hc
      rcases hv.sl_inv with ⟨L', loc, A, C, _, _, _, _, _, k, _, rfl⟩ | ⟨L', A, C, _, _, _, rfl⟩
      · exact ⟨_, 0, C, rfl, k, by simp, fun j u hj => by simp at hj, _, _, rfl⟩
      · exact ⟨_, 0, C, rfl, Nat.zero_le _, by simp, fun j u hj => by simp at hj, _, _, rfl⟩
    · rename_i hn
      split at hc
      case h_2 => cases hc
      rename_i cs' hr
      split at hc
      case isFalse => cases hc
      rename_i hl
      cases hc
      rcases hv.sl_inv with ⟨L', loc, A, C, e, k1, k2, k3, _, k4, _, rfl⟩ | ⟨_, _, _, _, e, _⟩
      · cases e
        obtain ⟨h1, h2⟩ := rel_aread h k1 k2 hr
        refine ⟨_, n, C, rfl, k4, h1, fun j u hj => ⟨_, rfl, ?_⟩, _, _, rfl⟩
        obtain ⟨A', u', e1, e2, e3⟩ := h2 j u hj
        have hlu : leaf u = true := by
          have := hl.1
          rw [List.all_eq_true] at this
          exact this u (List.mem_of_getElem? hj)
        obtain rfl := e3.leaf_eq hlu
        have ea : Addr.add ⟨loc.B, A, none⟩ j = ⟨loc.B, A', none⟩ := by
          have : A' = A + j := by omega
          subst this
          unfold Addr.add
          split <;> simp_all
        rw [ea]; exact e2
      · omega
  · cases hc
end Go.Proofs.YtdmbgbennlnpcaaDoorAbs
namespace Go.Proofs.YtdmbgbennlnpcaaDoorAbs
set_option linter.unusedVariables false
set_option linter.unusedSimpArgs false
section
variable {P : Program}
theorem binX_shl (t : TypeId) (x y : Operand) (k k' : IntKind) (a b : Int) (h : 0 ≤ b) : binX P .shl t x y (.int k a) (.int k' b) = some (.int k (k.wrap (a * 2 ^ (min b.toNat k.bits)))) := by
  have h' : ¬ b < 0 := by omega
  simp [binX, abinOp, scalar, leaf, eqGuard, binOp, Op.shift, h', pureRun, Bind.bind, Sem.bind, pure]
theorem binX_shr (t : TypeId) (x y : Operand) (k k' : IntKind) (a b : Int) (h : 0 ≤ b) : binX P .shr t x y (.int k a) (.int k' b) = some (.int k (a.fdiv (2 ^ (min b.toNat k.bits)))) := by
  have h' : ¬ b < 0 := by omega
  simp [binX, abinOp, scalar, leaf, eqGuard, binOp, Op.shift, h', pureRun, Bind.bind, Sem.bind, pure]
theorem binX_or (t : TypeId) (x y : Operand) (k : IntKind) (a b : Int) : binX P .or t x y (.int k a) (.int k b) = some (.int k (k.wrap (BitVec.ofInt k.bits a ||| BitVec.ofInt k.bits b).toNat)) := by
  simp [binX, abinOp, scalar, leaf, eqGuard, binOp, Op.intBits, pureRun, Bind.bind, Sem.bind, pure]
theorem binX_and (t : TypeId) (x y : Operand) (k : IntKind) (a b : Int) : binX P .and t x y (.int k a) (.int k b) = some (.int k (k.wrap (BitVec.ofInt k.bits a &&& BitVec.ofInt k.bits b).toNat)) := by
  simp [binX, abinOp, scalar, leaf, eqGuard, binOp, Op.intBits, pureRun, Bind.bind, Sem.bind, pure]
theorem binX_xor (t : TypeId) (x y : Operand) (k : IntKind) (a b : Int) : binX P .xor t x y (.int k a) (.int k b) = some (.int k (k.wrap (BitVec.ofInt k.bits a ^^^ BitVec.ofInt k.bits b).toNat)) := by
  simp [binX, abinOp, scalar, leaf, eqGuard, binOp, Op.intBits, pureRun, Bind.bind, Sem.bind, pure]
theorem binX_ptr_ne (t : TypeId) (x y : Operand) {e : TypeId} (h : P.underlying t = some (.pointer e)) (a : Addr) : binX P .neq t x y (.pointer (some a)) (.pointer none) = some (.bool true) := by simp [binX, abinOp, anil, kPtr, h]
theorem binX_ptr_eq (t : TypeId) (x y : Operand) {e : TypeId} (h : P.underlying t = some (.pointer e)) (a : Addr) : binX P .eql t x y (.pointer (some a)) (.pointer none) = some (.bool false) := by simp [binX, abinOp, anil, kPtr, h]
theorem binX_if_ne (t : TypeId) (x y : Operand) (h : kIface P t = true) (u : TypeId) (v : Value) : binX P .neq t x y (.iface u v) .nilIface = some (.bool true) := by simp [binX, abinOp, anil, h]
theorem binX_if_eq (t : TypeId) (x y : Operand) (h : kIface P t = true) (u : TypeId) (v : Value) : binX P .eql t x y (.iface u v) .nilIface = some (.bool false) := by simp [binX, abinOp, anil, h]
theorem binX_sl_ne (t : TypeId) (x y : Operand) {e : TypeId} (h : P.underlying t = some (.slice e)) (a : Addr) (n c : Nat) (hn : 0 < n ∨ (0 < c ∧ c < UNK)) : binX P .neq t x y (.slice (some a) n c) (.slice none 0 0) = some (.bool true) := by simp [binX, abinOp, anil, kSlice, h, hn]
theorem binX_sl_eq (t : TypeId) (x y : Operand) {e : TypeId} (h : P.underlying t = some (.slice e)) (a : Addr) (n c : Nat) (hn : 0 < n ∨ (0 < c ∧ c < UNK)) : binX P .eql t x y (.slice (some a) n c) (.slice none 0 0) = some (.bool false) := by simp [binX, abinOp, anil, kSlice, h, hn]
theorem gb_undef (b : Bool) : gb undef b = false := rfl
end
end Go.Proofs.YtdmbgbennlnpcaaDoorAbs
set_option linter.unusedVariables false
set_option linter.unusedSimpArgs false
set_option linter.defProp false
namespace Go.Proofs.YtdmbgbennlnpcaaDoorAbs
set_option linter.unusedVariables false
set_option linter.unusedSimpArgs false
section
variable {P : Program} {I : Prims} {ops : Array Oper} {e : Env} {S : St} {Q : AExit → Env → St → Prop} {n : Env → St → Prop}
theorem W_skipI (h : Q .normal e S) : W P I .skip Q e S := h
theorem W_retI (h : Q .ret e S) : W P I .ret Q e S := h
theorem W_exitI {id : Nat} (h : Q (.exit id) e S) : W P I (.exit id) Q e S := h
theorem W_labelI {l : Nat} (h : Q .normal e S) : W P I (.label l) Q e S := h
theorem W_scopeI {c : Code} (h : W P I c Q e S) : W P I (.scope c) Q e S := h
theorem W_blockI {id : Nat} {c : Code} (h : W P I c (inBlock_ id Q) e S) : W P I (.block id c) Q e S := h
theorem W_regionI {id : Nat} {l : List Oper} (h : O P I l.toArray l [] (Q .normal) e S) : W P I (.region id l.toArray false) Q e S := h
theorem then_normalI (h : n e S) : then_ n Q .normal e S := h
theorem then_retI (h : Q .ret e S) : then_ n Q .ret e S := h
theorem then_exitI {id : Nat} (h : Q (.exit id) e S) : then_ n Q (.exit id) e S := h
theorem inBlock_normalI {id : Nat} (h : Q .normal e S) : inBlock_ id Q .normal e S := h
theorem inBlock_retI {id : Nat} (h : Q .ret e S) : inBlock_ id Q .ret e S := h
theorem inBlock_exitI {id : Nat} (h : Q .normal e S) : inBlock_ id Q (.exit id) e S := by rw [inBlock_exit, if_pos rfl]; exact h
theorem inBlock_exitN {id id' : Nat} (k : id' ≠ id) (h : Q (.exit id') e S) : inBlock_ id Q (.exit id') e S := by rw [inBlock_exit, if_neg k]; exact h
theorem O_split {op : Op} {g : Nat} {b t : Bool} {fl : List Bool} {l r : List Oper} {dst : Option Tmp} {ty : TypeId} {pos : String} {after : Array Edge} {R : Env → St → Prop} (h : gt ((l[g]?).bind (·.dst)) b e = t) (h1 : t = true → O P I l.toArray (⟨dst, op, ty, pos, after, none⟩ :: r) fl R e S) (h2 : t = false → O P I l.toArray r fl.tail R (e.putO dst undef) S) :
    O P I l.toArray (⟨dst, op, ty, pos, after, some (g, b)⟩ :: r) fl R e S := by
  rw [O_guarded]
  cases t with
  | true => rw [if_pos h]; exact h1 rfl
  | false => rw [if_neg (by rw [h]; decide)]; exact h2 rfl
end
end Go.Proofs.YtdmbgbennlnpcaaDoorAbs
namespace Go.Proofs.YtdmbgbennlnpcaaDoorAbs
end Go.Proofs.YtdmbgbennlnpcaaDoorAbs
namespace Go.Proofs.YtdmbgbennlnpcaaDoorAbs
end Go.Proofs.YtdmbgbennlnpcaaDoorAbs
namespace Go.Proofs.YtdmbgbennlnpcaaDoorAbs
def gIf (c : Bool) (a b : Prop) : Prop := if c = true then a else b
@[congr] theorem gIf_congr {c c' : Bool} {a b : Prop} (h : c = c') : gIf c a b = gIf c' a b := by rw [h]
theorem gIf_t {a b : Prop} : gIf true a b = a := by unfold gIf; rw [if_pos rfl]
theorem gIf_f {a b : Prop} : gIf false a b = b := by unfold gIf; rw [if_neg (by decide)]
end Go.Proofs.YtdmbgbennlnpcaaDoorAbs
namespace Go.Proofs.YtdmbgbennlnpcaaDoorAbs
def Cont (K N : AExit → Env → St → Prop) : Prop := ∀ x e S, N x e S → K x e S
theorem Cont.use {K N : AExit → Env → St → Prop} {x : AExit} {e : Env} {S : St} (h : Cont K N) (k : N x e S) : K x e S := h x e S k
theorem W_pushC {P : Program} {I : Prims} {a b : Code} {Q : AExit → Env → St → Prop} {e : Env} {S : St} (h : ∀ K : AExit → Env → St → Prop, Cont K (then_ (W P I b Q) Q) → W P I a K e S) : W P I (.seq a b) Q e S := h _ fun _ _ _ h => h
end Go.Proofs.YtdmbgbennlnpcaaDoorAbs
namespace Go.Proofs.YtdmbgbennlnpcaaDoorAbs
section
variable {P : Program} {e : Env} {S : St} {R : Value → St → Prop}
theorem bodyQ_normal0 (h : R (.tuple #[]) S) : bodyQ P [] R .normal e S := ⟨_, rfl, h⟩
theorem bodyQ_normal1 {t0 : Nat} (h : R (e.get t0) S) : bodyQ P [.tmp t0] R .normal e S := ⟨_, rfl, h⟩
theorem bodyQ_normal2 {t0 t1 : Nat} (h : R (.tuple #[e.get t0, e.get t1]) S) : bodyQ P [.tmp t0, .tmp t1] R .normal e S := ⟨_, rfl, h⟩
theorem bodyQ_normal3 {t0 t1 t2 : Nat} (h : R (.tuple #[e.get t0, e.get t1, e.get t2]) S) : bodyQ P [.tmp t0, .tmp t1, .tmp t2] R .normal e S := ⟨_, rfl, h⟩
theorem bodyQ_normal4 {t0 t1 t2 t3 : Nat} (h : R (.tuple #[e.get t0, e.get t1, e.get t2, e.get t3]) S) : bodyQ P [.tmp t0, .tmp t1, .tmp t2, .tmp t3] R .normal e S := ⟨_, rfl, h⟩
theorem bodyQ_ret0 (h : R (.tuple #[]) S) : bodyQ P [] R .ret e S := ⟨_, rfl, h⟩
theorem bodyQ_ret1 {t0 : Nat} (h : R (e.get t0) S) : bodyQ P [.tmp t0] R .ret e S := ⟨_, rfl, h⟩
theorem bodyQ_ret2 {t0 t1 : Nat} (h : R (.tuple #[e.get t0, e.get t1]) S) : bodyQ P [.tmp t0, .tmp t1] R .ret e S := ⟨_, rfl, h⟩
theorem bodyQ_ret3 {t0 t1 t2 : Nat} (h : R (.tuple #[e.get t0, e.get t1, e.get t2]) S) : bodyQ P [.tmp t0, .tmp t1, .tmp t2] R .ret e S := ⟨_, rfl, h⟩
theorem bodyQ_ret4 {t0 t1 t2 t3 : Nat} (h : R (.tuple #[e.get t0, e.get t1, e.get t2, e.get t3]) S) : bodyQ P [.tmp t0, .tmp t1, .tmp t2, .tmp t3] R .ret e S := ⟨_, rfl, h⟩
end
end Go.Proofs.YtdmbgbennlnpcaaDoorAbs
namespace Go.Proofs.YtdmbgbennlnpcaaDoorAbs
section
variable {P : Program} {I : Prims} {ops : Array Oper} {r : List Oper} {Q : Env → St → Prop} {e : Env} {S : St} {dst : Option Tmp} {ty : TypeId} {pos : String} {after : Array Edge} {fl : List Bool}
def OKT (P : Program) (I : Prims) (ops : Array Oper) (r : List Oper) (fl : List Bool) (Q : Env → St → Prop) (dst : Option Tmp) (e : Env) (n l : Nat) : Value → St → Prop := fun v S' => n ≤ S'.low ∧ O P I ops r fl Q (e.putO dst v) (S'.withLow l)
theorem OKT_ap {v : Value} {S' : St} {n l : Nat} : OKT P I ops r fl Q dst e n l v S' = (n ≤ S'.low ∧ O P I ops r fl Q (e.putO dst v) (S'.withLow l)) := rfl
theorem O_callT {f : Operand} {args : Array Operand} {ts : Array TypeId} : O P I ops (⟨dst, .call ⟨.value f, args, ts⟩, ty, pos, after, none⟩ :: r) (true :: fl) Q e S =
    ((acallee (e.ev f) (args.map e.ev)).isSome = true ∧ callable P (callF (e.ev f) (args.map e.ev)) = true ∧ C P I (callF (e.ev f) (args.map e.ev)) (callX (e.ev f) (args.map e.ev)) (S.withLow S.next) (OKT P I ops r fl Q dst e S.next S.low)) := by
  rw [O]
  simp only [wants, if_true, List.headD_cons, List.tail_cons, callF, callX]
  refine propext ⟨?_, ?_⟩
  · rintro ⟨g, xs, h1, h2, h3⟩
    rw [h1]
    exact ⟨rfl, h2, h3⟩
  · rintro ⟨h1, h2, h3⟩
    obtain ⟨q, hq⟩ := Option.isSome_iff_exists.1 h1
    rw [hq] at h2 h3
    exact ⟨q.1, q.2, hq, h2, h3⟩
end
end Go.Proofs.YtdmbgbennlnpcaaDoorAbs
namespace Go.Proofs.YtdmbgbennlnpcaaDoorAbs
section
variable {P : Program} {S : St} {dst : Option Tmp} {ty : TypeId} {pos : String} {after : Array Edge} {ev : Operand → Value}
def minX : Value → Value → Option Value
  | .int k a, .int k' b => if k = k' then some (.int k (if b < a then b else a)) else none
  | _, _ => none
def maxX : Value → Value → Option Value
  | .int k a, .int k' b => if k = k' then some (.int k (if a < b then b else a)) else none
  | _, _ => none
def lenX (P : Program) (t : TypeId) : Value → Option Value
  | .string s => match P.underlying t with
    | some .string => some (goInt s.size)
    | _ => none
  | _ => none
theorem minX_int (k : IntKind) (a b : Int) : minX (.int k a) (.int k b) = some (.int k (if b < a then b else a)) := by simp [minX]
theorem maxX_int (k : IntKind) (a b : Int) : maxX (.int k a) (.int k b) = some (.int k (if a < b then b else a)) := by simp [maxX]
theorem lenX_str (t : TypeId) (s : ByteArray) (h : P.underlying t = some .string) : lenX P t (.string s) = some (goInt s.size) := by simp [lenX, h]
def asc0 (P : Program) (ev : Operand → Value) (o : Oper) (S : St) : Option (Value × St) := ascalar P ev o S
theorem asc_min (x y : Operand) (ts : Array TypeId) : ascalar P ev ⟨dst, .call ⟨.builtin .min, #[x, y], ts⟩, ty, pos, after, none⟩ S = alt (lift S (minX (ev x) (ev y))) (asc0 P ev ⟨dst, .call ⟨.builtin .min, #[x, y], ts⟩, ty, pos, after, none⟩ S) := by
  cases hm : minX (ev x) (ev y) with
  | none => rfl
  | some v =>
    unfold minX at hm
    split at hm
    case h_2 => cases hm
    rename_i k a k' b hx hy
    split at hm
    case isFalse => cases hm
    rename_i hk
    subst hk
    cases hm
    simp [ascalar, Op.operands, Call.operands, hx, hy, scalar, leaf, isSelect, execOp, resolve, invoke, builtin, Builtin.min_, Builtin.min2, pureRun_bind, pureRun_pure, lift, alt, Bind.bind, Sem.bind, pure, pureRun]
theorem asc_max (x y : Operand) (ts : Array TypeId) : ascalar P ev ⟨dst, .call ⟨.builtin .max, #[x, y], ts⟩, ty, pos, after, none⟩ S = alt (lift S (maxX (ev x) (ev y))) (asc0 P ev ⟨dst, .call ⟨.builtin .max, #[x, y], ts⟩, ty, pos, after, none⟩ S) := by
  cases hm : maxX (ev x) (ev y) with
  | none => rfl
  | some v =>
    unfold maxX at hm
    split at hm
    case h_2 => cases hm
    rename_i k a k' b hx hy
    split at hm
    case isFalse => cases hm
    rename_i hk
    subst hk
    cases hm
    simp [ascalar, Op.operands, Call.operands, hx, hy, scalar, leaf, isSelect, execOp, resolve, invoke, builtin, Builtin.max_, Builtin.max2, pureRun_bind, pureRun_pure, lift, alt, Bind.bind, Sem.bind, pure, pureRun]
theorem asc_len (x : Operand) (t : TypeId) : ascalar P ev ⟨dst, .call ⟨.builtin .len, #[x], #[t]⟩, ty, pos, after, none⟩ S = alt (lift S (lenX P t (ev x))) (asc0 P ev ⟨dst, .call ⟨.builtin .len, #[x], #[t]⟩, ty, pos, after, none⟩ S) := by
  cases hm : lenX P t (ev x) with
  | none => rfl
  | some v =>
    unfold lenX at hm
    split at hm
    case h_2 => cases hm
    rename_i s hx
    split at hm
    case h_2 => cases hm
    rename_i hu
    cases hm
    simp [ascalar, Op.operands, Call.operands, hx, scalar, leaf, isSelect, execOp, resolve, invoke, builtin, Builtin.len_, underlying, program, hu, goInt, pureRun_bind, pureRun_pure, lift, alt, Bind.bind, Sem.bind, pure, pureRun]
theorem abuiltin_min (ts : List TypeId) (xs : List Value) : abuiltin P S .min ts xs = none := by unfold abuiltin; split <;> first | rfl | simp_all
theorem abuiltin_max (ts : List TypeId) (xs : List Value) : abuiltin P S .max ts xs = none := by unfold abuiltin; split <;> first | rfl | simp_all
theorem abuiltin_lenS (t : TypeId) (s : ByteArray) : abuiltin P S .len [t] [.string s] = none := by simp [abuiltin]
end
end Go.Proofs.YtdmbgbennlnpcaaDoorAbs
namespace Go.Proofs.YtdmbgbennlnpcaaDoorAbs
section
variable {P : Program} {I : Prims} {r : List Oper} {Q : Env → St → Prop} {e : Env} {S : St} {dst : Option Tmp} {ty : TypeId} {pos : String} {after : Array Edge} {op : Op} {g : Nat} {b : Bool} {fl : List Bool} {l : List Oper}
theorem O_gdT (h : gt ((l[g]?).bind (·.dst)) b e = true) : O P I l.toArray (⟨dst, op, ty, pos, after, some (g, b)⟩ :: r) fl Q e S = O P I l.toArray (⟨dst, op, ty, pos, after, none⟩ :: r) fl Q e S := by rw [O_guarded, if_pos h]
theorem O_gdF (h : gt ((l[g]?).bind (·.dst)) b e = false) : O P I l.toArray (⟨dst, op, ty, pos, after, some (g, b)⟩ :: r) fl Q e S = O P I l.toArray r fl.tail Q (e.putO dst undef) S := by rw [O_guarded, if_neg (by rw [h]; decide)]
end
set_option linter.defProp false
def DN := And.intro @O_nil (And.intro @O_go (And.intro @O_call (And.intro @O_end (And.intro @O_goF (And.intro @O_pure (And.intro @O_goT (And.intro @O_callF (And.intro @O_callT (And.intro @O_gdT @O_gdF)))))))))
set_option linter.defProp false
def UP := And.intro @minX_int (And.intro @maxX_int (And.intro @lenX_str (And.intro @asc_min (And.intro @asc_max (And.intro @asc_len (And.intro @abuiltin_min (And.intro @abuiltin_max (And.intro @abuiltin_lenS (And.intro @OKT_ap (And.intro @gIf_t (And.intro @gIf_f (And.intro @ev_tmp (And.intro @ev_const (And.intro @ev_global (And.intro @ev_func (And.intro @putO_some (And.intro @putO_none (And.intro @get_put (And.intro @get_args (And.intro @okO_some (And.intro @vO_some (And.intro @sO_some (And.intro @callF_func (And.intro @callX_func (And.intro @acallee_func (And.intro @lift_some (And.intro @lift_none (And.intro @liftS_some (And.intro @liftS_none (And.intro @alt_some (And.intro @alt_none (And.intro @nilX_some (And.intro @extX_tuple (And.intro @aop_move (And.intro @aop_assign (And.intro @aop_binOp (And.intro @aop_unOp (And.intro @aop_pick (And.intro @aop_alloc (And.intro @aop_box (And.intro @aop_build (And.intro @aop_buildSlice (And.intro @aop_load (And.intro @aop_store (And.intro @aop_nilCheck (And.intro @aop_makeInterface (And.intro @aop_makeFunc (And.intro @aop_makeSlice (And.intro @aop_fieldAddr (And.intro @aop_field (And.intro @aop_indexAddr (And.intro @aop_extract (And.intro @aop_slice (And.intro @aop_index (And.intro @aop_convert (And.intro @aop_builtin (And.intro @aop_typeAssert (And.intro @binX_add (And.intro @binX_sub (And.intro @binX_mul (And.intro @binX_lss (And.intro @binX_leq (And.intro @binX_gtr (And.intro @binX_geq (And.intro @binX_eql (And.intro @binX_neq (And.intro @binX_quo (And.intro @binX_rem (And.intro @binX_sadd (And.intro @binX_seql (And.intro @binX_sneq (And.intro @unX_not (And.intro @unX_neg (And.intro @pkX_and (And.intro @pkX_or (And.intro @ssX_lh (And.intro @ssX_l (And.intro @ssX_h (And.intro @aslice_string (And.intro @aindex_string (And.intro @ixX_string (And.intro @aconvert_int (And.intro @cvX_int (And.intro @List.size_toArray.{0} (And.intro @List.length_cons.{0} (And.intro @List.length_nil.{0} (And.intro @List.getElem?_cons_zero.{0} (And.intro @List.getElem?_cons_succ.{0} (And.intro @Option.getD_some.{0} (And.intro @Option.getD_none.{0} (And.intro @List.toList_toArray.{0} (And.intro @Option.map_some.{0,0} (And.intro @Option.map_none.{0,0} (And.intro @true_and (And.intro @and_true (And.intro @List.getElem?_nil.{0} (And.intro @ne_eq.{1} (And.intro @not_false_eq_true (And.intro @List.map_toArray.{0,0} (And.intro @List.map_cons.{0,0} (And.intro @List.map_nil.{0,0} (And.intro @Option.isSome_some.{0} (And.intro @Array.toList_append.{0} (And.intro @List.append_toArray.{0} (And.intro @List.nil_append.{0} (And.intro @List.cons_append.{0} (And.intro @List.append_nil.{0} (And.intro @Option.bind_some.{0,0} (And.intro @List.tail_nil.{0} (And.intro @List.tail_cons.{0} (And.intro @eq_self.{1} (And.intro @Bool.false_eq_true (And.intro @Bool.true_eq_false (And.intro @Bool.true_and (And.intro @Bool.and_true (And.intro @Bool.true_or (And.intro @Bool.or_true (And.intro @beq_true (And.intro @beq_false (And.intro @Bool.not_true (And.intro @Bool.not_false (And.intro @Bool.or_false (And.intro @Nat.le_refl (And.intro @pkX_t (And.intro @pkX_f (And.intro @gt_some (And.intro @gb_bool (And.intro @gb_undef (And.intro @withLow_withLow (And.intro @withLow_low (And.intro @push_withLow (And.intro @push_withLow_low (And.intro @aload_withLow (And.intro @St.low_withLow (And.intro @St.next_withLow (And.intro @St.get_withLow (And.intro @St.low_push (And.intro @cells_agg (And.intro @cells_int (And.intro @cells_bool (And.intro @cells_string (And.intro @cells_slice (And.intro @cells_pointer (And.intro @cells_iface (And.intro @cells_nilIface (And.intro @ptrAt_eq (And.intro @St.get_push_ne (And.intro @St.get_push_self (And.intro @St.next_push (And.intro @St.next_upd (And.intro @St.get_upd_self (And.intro @St.get_upd_ne (And.intro @upd_upd (And.intro @aload_cell (And.intro @aload_row (And.intro @astore_if (And.intro @cellAt_own (And.intro @cellAt_their (And.intro @rowAt_own (And.intro @rowAt_their (And.intro @storeAt_own (And.intro @List.take_succ_cons.{0} (And.intro @List.drop_succ_cons.{0} (And.intro @Int.toNat_zero (And.intro @Int.toNat_one (And.intro @Nat.zero_mul (And.intro @Nat.one_mul (And.intro @Nat.mul_one (And.intro @Nat.zero_add (And.intro @Nat.add_zero (And.intro @List.take_zero.{0} (And.intro @List.drop_zero.{0} (And.intro @aindexAddr_slice (And.intro @aindexAddr_array (And.intro @aslice_h (And.intro @aslice_l (And.intro @aslice_lh (And.intro @abuiltin_len (And.intro @List.getElem?_toArray.{0} (And.intro @OKF_ap (And.intro @OK_ap (And.intro @binX_shl (And.intro @binX_shr (And.intro @binX_or (And.intro @binX_and (And.intro @binX_xor (And.intro @binX_ptr_ne (And.intro @binX_ptr_eq (And.intro @binX_if_ne (And.intro @binX_if_eq (And.intro @binX_sl_ne (@binX_sl_eq))))))))))))))))))))))))))))))))))))))))))))))))))))))))))))))))))))))))))))))))))))))))))))))))))))))))))))))))))))))))))))))))))))))))))))))))))))))))))))))))))))))))))))))))))))))))))))))))
def EVB := And.intro @ev_tmp (And.intro @ev_const (And.intro @get_put (And.intro @get_args (And.intro @List.getElem?_cons_zero.{0} (And.intro @List.getElem?_cons_succ.{0} (And.intro @List.getElem?_nil.{0} (And.intro @Option.getD_some.{0} (And.intro @Option.getD_none.{0} (And.intro @OKF_ap (And.intro @OK_ap (And.intro @putO_some (And.intro @putO_none (@blkOf_nil)))))))))))))
def HTN := And.intro @decide_eq_true_eq (And.intro @decide_eq_false_iff_not (And.intro @Bool.not_eq_true' (And.intro @Bool.not_eq_false' (And.intro @Bool.and_eq_true (And.intro @Bool.or_eq_true (And.intro @Bool.and_eq_false_iff (And.intro @Bool.or_eq_false_iff (And.intro @not_true_eq_false (And.intro @not_false_eq_true (And.intro @Bool.false_eq_true (And.intro @Bool.true_eq_false (And.intro @false_or (And.intro @or_false (And.intro @true_and (And.intro @and_true (And.intro @false_and (And.intro @and_false (And.intro @true_or @or_true))))))))))))))))))
end Go.Proofs.YtdmbgbennlnpcaaDoorAbs
namespace Go.Proofs.YtdmbgbennlnpcaaDoorAbs
theorem qq {Q : Value → St → Prop} {v v' : Value} {S S' : St} (h : Q v S) (e : v = v') (e2 : S = S') : Q v' S' := by subst e; subst e2; exact h
theorem wp64 {n : Int} (h : -9223372036854775808 ≤ n) (h1 : n ≤ 9223372036854775807) : IntKind.i64.wrap n = n := by simp [IntKind.wrap, IntKind.bits, IntKind.signed]; omega
end Go.Proofs.YtdmbgbennlnpcaaDoorAbs
set_option linter.unusedVariables false
set_option linter.unusedSimpArgs false
namespace Go.Proofs.YtdmbgbennlnpcaaDoorAbs
set_option linter.unusedVariables false
set_option linter.unusedSimpArgs false
theorem calls_of_run {P : Program} {I : Prims} (hI : PrimSim P I) (hm : P.follows .mixedOrders = true) {f k : Nat} {gl : Nat → Option (List Value)} {wh : Nat → Bool} {u : Value} {S1 : St} (hs : scalar u = true) (hk : acall P I k f #[] (St.start P.globals.size gl wh) = some (u, S1))
    {ρ : Ren} {S : St} {w : World} (hrel : Rel P ρ S w) (hg : ∀ g cs, g ≤ P.globals.size → gl g = some cs → cs.all leaf = true ∧ ∃ el m, S.get g = some ⟨cs, el, false, m⟩ ∧ (wh g = true → el = 1)) : Calls P f #[] w fun e w' => e = .returned u ∧ RowKit.Below w.heap.size w w' := by
  have st0 : Start P (Ren.start P.globals.size) (St.start P.globals.size gl wh) w := by
    refine start0w gl wh (hrel.loc _ _ _ (hrel.glob _ (Nat.le_refl _))) (fun g cs hle hgl j v hj => ?_) (fun g cs hle hgl hwg => ?_)
    case refine_2 =>
      obtain ⟨hl, el, m, hget, he⟩ := hg g cs hle hgl
      exact (hrel.blk _ _ _ _ (hrel.glob g hle) hget).all rfl (he hwg)
    obtain ⟨hl, el, m, hget, _⟩ := hg g cs hle hgl
    have q := hrel.blk _ _ _ _ (hrel.glob g hle) hget
    obtain ⟨A, v', e1, e2, e3⟩ := q.cells (fun h => by cases h) j v (Nat.zero_le _) (fun h => by cases h) hj
    have hA : A = j := by simp at e1; omega
    subst hA
    have hlv : leaf v = true := by
      rw [List.all_eq_true] at hl
      exact hl v (List.mem_of_getElem? hj)
    obtain rfl := e3.leaf_eq hlv
    exact ⟨_, e2, .leaf _ hlv⟩
  exact law_of_run hI hm hk hs st0.rel st0.wf (VRL.nil _) st0.new st0.low st0.their
section
variable {P : Program} {I : Prims} {ops : Array Oper} {r : List Oper} {Q : Env → St → Prop} {e : Env} {S : St} {dst : Option Tmp} {ty : TypeId} {pos : String} {after : Array Edge}
end
end Go.Proofs.YtdmbgbennlnpcaaDoorAbs
set_option linter.unusedVariables false
set_option linter.unusedSimpArgs false
namespace Go.Proofs.YtdmbgbennlnpcaaDoorAbs
def CG (v : Value) (A B : Prop) : Prop := ∃ t, v = .bool t ∧ (t = true → A) ∧ (t = false → B)
def CB (t : Bool) (A B : Prop) : Prop := (t = true → A) ∧ (t = false → B)
theorem CB_intro {t : Bool} {A B : Prop} (h1 : t = true → A) (h2 : t = false → B) : CB t A B := ⟨h1, h2⟩
theorem CG_bool {t : Bool} {A B : Prop} : CG (.bool t) A B = CB t A B := propext ⟨fun ⟨t', h, h1, h2⟩ => by cases h; exact ⟨h1, h2⟩, fun ⟨h1, h2⟩ => ⟨t, rfl, h1, h2⟩⟩
theorem CB_true {A B : Prop} : CB true A B = A := propext ⟨fun h => h.1 rfl, fun h => ⟨fun _ => h, fun q => (by cases q)⟩⟩
theorem CB_false {A B : Prop} : CB false A B = B := propext ⟨fun h => h.2 rfl, fun h => ⟨fun q => (by cases q), fun _ => h⟩⟩
section
variable {P : Program} {I : Prims} {Q : AExit → Env → St → Prop} {e : Env} {S : St}
theorem W_condG {c : Operand} {x y : Code} (h : ∀ A B : Prop, (W P I x Q e S → A) → (W P I y Q e S → B) → CG (e.ev c) A B) : W P I (.cond c x y) Q e S := by
  obtain ⟨t, h0, h1, h2⟩ := h _ _ id id
  exact W_cond h0 h1 h2
theorem O_splitG {op : Op} {g : Nat} {b : Bool} {fl : List Bool} {l r : List Oper} {dst : Option Tmp} {ty : TypeId} {pos : String} {after : Array Edge} {R : Env → St → Prop} (h : ∀ A B : Prop, (O P I l.toArray (⟨dst, op, ty, pos, after, none⟩ :: r) fl R e S → A) → (O P I l.toArray r fl.tail R (e.putO dst undef) S → B) → CB (gt ((l[g]?).bind (·.dst)) b e) A B) :
    O P I l.toArray (⟨dst, op, ty, pos, after, some (g, b)⟩ :: r) fl R e S := by
  obtain ⟨h1, h2⟩ := h _ _ id id
  exact O_split rfl h1 h2
end
set_option linter.defProp false
def GSB := And.intro @gt_some (And.intro @gb_bool (And.intro @gb_undef (And.intro @ev_tmp (And.intro @ev_const (And.intro @get_put (And.intro @get_args (And.intro @List.getElem?_cons_zero.{0} (And.intro @List.getElem?_cons_succ.{0} (And.intro @List.getElem?_nil.{0} (And.intro @Option.getD_some.{0} (And.intro @Option.getD_none.{0} (And.intro @putO_some (And.intro @putO_none (And.intro @Option.bind_some.{0,0} (And.intro @beq_self_eq_true.{0} (And.intro @Bool.not_true (And.intro @Bool.not_false (And.intro @beq_true (@beq_false)))))))))))))))))))
def DSB := And.intro @List.length_cons.{0} (And.intro @List.length_nil.{0} (And.intro @List.size_toArray.{0} (And.intro @List.toList_toArray.{0} (And.intro @List.all_cons.{0} (And.intro @List.all_nil.{0} (And.intro @Bool.and_self (And.intro @St.next_push (And.intro @St.next_upd (And.intro @Nat.zero_add (And.intro @Nat.le_refl (@Nat.zero_le)))))))))))
def CGB := And.intro @CG_bool (And.intro @CB_true @CB_false)
end Go.Proofs.YtdmbgbennlnpcaaDoorAbs
set_option linter.unusedVariables false
set_option linter.unusedSimpArgs false
namespace Go.Proofs.YtdmbgbennlnpcaaDoorAbs
section
variable {P : Program} {e : Env} {S : St} {R : Value → St → Prop}
end
set_option linter.defProp false
end Go.Proofs.YtdmbgbennlnpcaaDoorAbs
namespace Go.Proofs.YtdmbgbennlnpcaaDoor.Q
open Go Go.Proofs.YtdmbgbennlnpcaaDoorAbs Go.Proofs
set_option linter.unusedVariables false
set_option linter.unusedSimpArgs false
set_option linter.defProp false
set_option maxRecDepth 100000
theorem ca9 : callable Tryd.prog 9 = true := by kernel_rfl
theorem ze24 : azero Tryd.prog 24 = some (.agg #[.int .i64 0, .string ⟨#[]⟩, .int .i64 0, .slice none 0 0]) := by kernel_rfl
theorem sc24 : scalar (.agg #[.int .i64 0, .string ⟨#[]⟩, .int .i64 0, .slice none 0 0]) = true := by simp [scalar, leaf]
theorem sz24 : asize Tryd.prog 24 = some 4 := by kernel_rfl
theorem ca10 : callable Tryd.prog 10 = true := by kernel_rfl
theorem ca11 : callable Tryd.prog 11 = true := by kernel_rfl
theorem ca12 : callable Tryd.prog 12 = true := by kernel_rfl
theorem u9 : Tryd.prog.underlying 9 = some .string := by kernel_rfl
theorem fa24_0 : ∀ b o L : Nat, afieldAddr Tryd.prog 24 0 (.pointer (some ⟨b, o, some L⟩)) = some (.pointer (some ⟨b, o + 0, some L⟩)) := by intros; kernel_rfl
theorem ag3 : isAgg? Tryd.prog 3 = some false := by kernel_rfl
theorem sz3 : asize Tryd.prog 3 = some 1 := by kernel_rfl
theorem u3 : Tryd.prog.underlying 3 = some (.int .i64) := by kernel_rfl
theorem fa24_1 : ∀ b o L : Nat, afieldAddr Tryd.prog 24 1 (.pointer (some ⟨b, o, some L⟩)) = some (.pointer (some ⟨b, o + 1, some L⟩)) := by intros; kernel_rfl
theorem ag9 : isAgg? Tryd.prog 9 = some false := by kernel_rfl
theorem sz9 : asize Tryd.prog 9 = some 1 := by kernel_rfl
theorem fa24_2 : ∀ b o L : Nat, afieldAddr Tryd.prog 24 2 (.pointer (some ⟨b, o, some L⟩)) = some (.pointer (some ⟨b, o + 2, some L⟩)) := by intros; kernel_rfl
theorem fa24_3 : ∀ b o L : Nat, afieldAddr Tryd.prog 24 3 (.pointer (some ⟨b, o, some L⟩)) = some (.pointer (some ⟨b, o + 3, some L⟩)) := by intros; kernel_rfl
theorem ag22 : isAgg? Tryd.prog 22 = some false := by kernel_rfl
theorem sz22 : asize Tryd.prog 22 = some 1 := by kernel_rfl
theorem u22 : Tryd.prog.underlying 22 = some (.slice 50) := by kernel_rfl
theorem ca13 : callable Tryd.prog 13 = true := by kernel_rfl
theorem u25 : Tryd.prog.underlying 25 = some (.slice 5) := by kernel_rfl
theorem sz5 : asize Tryd.prog 5 = some 1 := by kernel_rfl
theorem ze5 : azero Tryd.prog 5 = some (.int .u8 0) := by kernel_rfl
theorem sc5 : scalar (.int .u8 0) = true := by simp [scalar, leaf]
theorem u5 : Tryd.prog.underlying 5 = some (.int .u8) := by kernel_rfl
theorem by5 : abytes Tryd.prog 5 = some 1 := by kernel_rfl
theorem ca14 : callable Tryd.prog 14 = true := by kernel_rfl
theorem ca15 : callable Tryd.prog 15 = true := by kernel_rfl
theorem ok4 : okCode Tryd.prog 63 (match Tryd.f4.body with | some c => c | none => .skip) = true := by kernel_rfl
theorem sz38 : asize Tryd.prog 38 = some 4 := by kernel_rfl
theorem ag38 : isAgg? Tryd.prog 38 = some true := by kernel_rfl
theorem ca16 : callable Tryd.prog 16 = true := by kernel_rfl
theorem fa38_0 : ∀ b o L : Nat, afieldAddr Tryd.prog 38 0 (.pointer (some ⟨b, o, some L⟩)) = some (.pointer (some ⟨b, o + 0, some L⟩)) := by intros; kernel_rfl
theorem fa38_1 : ∀ b o L : Nat, afieldAddr Tryd.prog 38 1 (.pointer (some ⟨b, o, some L⟩)) = some (.pointer (some ⟨b, o + 1, some L⟩)) := by intros; kernel_rfl
theorem fa38_2 : ∀ b o L : Nat, afieldAddr Tryd.prog 38 2 (.pointer (some ⟨b, o, some L⟩)) = some (.pointer (some ⟨b, o + 2, some L⟩)) := by intros; kernel_rfl
theorem fa38_3 : ∀ b o L : Nat, afieldAddr Tryd.prog 38 3 (.pointer (some ⟨b, o, some L⟩)) = some (.pointer (some ⟨b, o + 3, some L⟩)) := by intros; kernel_rfl
theorem u4 : Tryd.prog.underlying 4 = some .bool := by kernel_rfl
theorem ok5 : okCode Tryd.prog 86 (match Tryd.f5.body with | some c => c | none => .skip) = true := by kernel_rfl
theorem ag24 : isAgg? Tryd.prog 24 = some true := by kernel_rfl
theorem ze38 : azero Tryd.prog 38 = some (.agg #[.string ⟨#[]⟩, .string ⟨#[]⟩, .int .i64 0, .slice none 0 0]) := by kernel_rfl
theorem sc38 : scalar (.agg #[.string ⟨#[]⟩, .string ⟨#[]⟩, .int .i64 0, .slice none 0 0]) = true := by simp [scalar, leaf]
theorem ca17 : callable Tryd.prog 17 = true := by kernel_rfl
theorem ca18 : callable Tryd.prog 18 = true := by kernel_rfl
theorem ca19 : callable Tryd.prog 19 = true := by kernel_rfl
theorem ca20 : callable Tryd.prog 20 = true := by kernel_rfl
theorem sz49 : asize Tryd.prog 49 = some 2 := by kernel_rfl
theorem sz50 : asize Tryd.prog 50 = some 2 := by kernel_rfl
theorem ze50 : azero Tryd.prog 50 = some (.agg #[.string ⟨#[]⟩, .string ⟨#[]⟩]) := by kernel_rfl
theorem sc50 : scalar (.agg #[.string ⟨#[]⟩, .string ⟨#[]⟩]) = true := by simp [scalar, leaf]
theorem by50 : abytes Tryd.prog 50 = some 32 := by kernel_rfl
theorem ag50 : isAgg? Tryd.prog 50 = some true := by kernel_rfl
theorem fa49_0 : ∀ b o L : Nat, afieldAddr Tryd.prog 49 0 (.pointer (some ⟨b, o, some L⟩)) = some (.pointer (some ⟨b, o + 0, some L⟩)) := by intros; kernel_rfl
theorem ca21 : callable Tryd.prog 21 = true := by kernel_rfl
theorem ca22 : callable Tryd.prog 22 = true := by kernel_rfl
theorem fa49_1 : ∀ b o L : Nat, afieldAddr Tryd.prog 49 1 (.pointer (some ⟨b, o, some L⟩)) = some (.pointer (some ⟨b, o + 1, some L⟩)) := by intros; kernel_rfl
theorem ca23 : callable Tryd.prog 23 = true := by kernel_rfl
theorem ca24 : callable Tryd.prog 24 = true := by kernel_rfl
theorem ca25 : callable Tryd.prog 25 = true := by kernel_rfl
theorem ca26 : callable Tryd.prog 26 = true := by kernel_rfl
theorem ca27 : callable Tryd.prog 27 = true := by kernel_rfl
theorem ca28 : callable Tryd.prog 28 = true := by kernel_rfl
theorem fa50_0 : ∀ b o L : Nat, afieldAddr Tryd.prog 50 0 (.pointer (some ⟨b, o, some L⟩)) = some (.pointer (some ⟨b, o + 0, some L⟩)) := by intros; kernel_rfl
theorem fa50_1 : ∀ b o L : Nat, afieldAddr Tryd.prog 50 1 (.pointer (some ⟨b, o, some L⟩)) = some (.pointer (some ⟨b, o + 1, some L⟩)) := by intros; kernel_rfl
theorem ca29 : callable Tryd.prog 29 = true := by kernel_rfl
theorem ca30 : callable Tryd.prog 30 = true := by kernel_rfl
theorem u58 : Tryd.prog.underlying 58 = some (.slice 9) := by kernel_rfl
theorem ze9 : azero Tryd.prog 9 = some (.string ⟨#[]⟩) := by kernel_rfl
theorem sc9 : scalar (.string ⟨#[]⟩) = true := by simp [scalar, leaf]
theorem by9 : abytes Tryd.prog 9 = some 16 := by kernel_rfl
theorem ca31 : callable Tryd.prog 31 = true := by kernel_rfl
theorem ca32 : callable Tryd.prog 32 = true := by kernel_rfl
theorem ca33 : callable Tryd.prog 33 = true := by kernel_rfl
theorem ca34 : callable Tryd.prog 34 = true := by kernel_rfl
theorem ca35 : callable Tryd.prog 35 = true := by kernel_rfl
theorem ca36 : callable Tryd.prog 36 = true := by kernel_rfl
theorem ca37 : callable Tryd.prog 37 = true := by kernel_rfl
theorem ca38 : callable Tryd.prog 38 = true := by kernel_rfl
theorem bd24_ : abuild Tryd.prog 24 #[] = some (.agg #[.int .i64 0, .string ⟨#[]⟩, .int .i64 0, .slice none 0 0]) := by kernel_rfl
theorem co68 : Tryd.prog.concrete 68 = true := by kernel_rfl
theorem ca40 : callable Tryd.prog 40 = true := by kernel_rfl
theorem ca39 : callable Tryd.prog 39 = true := by kernel_rfl
theorem bd50_0_1 : ∀ (x0 : ByteArray) (x1 : ByteArray) , abuild Tryd.prog 50 #[(0, .string x0), (1, .string x1)] = some (.agg #[.string x0, .string x1]) := by intros; kernel_rfl
theorem bd24_0_1_2_3 : ∀ (x0 : Int) (x1 : ByteArray) (x2 : Int) (x3 : Option Addr) (x3n x3c : Nat) , abuild Tryd.prog 24 #[(0, .int .i64 x0), (1, .string x1), (2, .int .i64 x2), (3, .slice x3 x3n x3c)] = some (.agg #[.int .i64 x0, .string x1, .int .i64 x2, .slice x3 x3n x3c]) := by intros; kernel_rfl
theorem ca41 : callable Tryd.prog 41 = true := by kernel_rfl
theorem ca42 : callable Tryd.prog 42 = true := by kernel_rfl
theorem u70 : Tryd.prog.underlying 70 = some (.slice 3) := by kernel_rfl
theorem ze3 : azero Tryd.prog 3 = some (.int .i64 0) := by kernel_rfl
theorem sc3 : scalar (.int .i64 0) = true := by simp [scalar, leaf]
theorem by3 : abytes Tryd.prog 3 = some 8 := by kernel_rfl
theorem ok13 : okCode Tryd.prog 26 (match Tryd.f13.body with | some c => c | none => .skip) = true := by kernel_rfl
theorem ok14 : okCode Tryd.prog 15 (match Tryd.f14.body with | some c => c | none => .skip) = true := by kernel_rfl
theorem bd38_0_1_2_3 : ∀ (x0 : ByteArray) (x1 : ByteArray) (x2 : Int) (x3 : Option Addr) (x3n x3c : Nat) , abuild Tryd.prog 38 #[(0, .string x0), (1, .string x1), (2, .int .i64 x2), (3, .slice x3 x3n x3c)] = some (.agg #[.string x0, .string x1, .int .i64 x2, .slice x3 x3n x3c]) := by intros; kernel_rfl
theorem bd38_0_1 : ∀ (x0 : ByteArray) (x1 : ByteArray) , abuild Tryd.prog 38 #[(0, .string x0), (1, .string x1)] = some (.agg #[.string x0, .string x1, .int .i64 0, .slice none 0 0]) := by intros; kernel_rfl
theorem ok16 : okCode Tryd.prog 49 (match Tryd.f16.body with | some c => c | none => .skip) = true := by kernel_rfl
theorem ca43 : callable Tryd.prog 43 = true := by kernel_rfl
theorem ca44 : callable Tryd.prog 44 = true := by kernel_rfl
theorem ca46 : callable Tryd.prog 46 = true := by kernel_rfl
theorem ca47 : callable Tryd.prog 47 = true := by kernel_rfl
theorem ok17 : okCode Tryd.prog 7 (match Tryd.f17.body with | some c => c | none => .skip) = true := by kernel_rfl
theorem ok18 : okCode Tryd.prog 49 (match Tryd.f18.body with | some c => c | none => .skip) = true := by kernel_rfl
theorem ca48 : callable Tryd.prog 48 = true := by kernel_rfl
theorem ca49 : callable Tryd.prog 49 = true := by kernel_rfl
theorem ca50 : callable Tryd.prog 50 = true := by kernel_rfl
theorem ca51 : callable Tryd.prog 51 = true := by kernel_rfl
theorem ok19 : okCode Tryd.prog 50 (match Tryd.f19.body with | some c => c | none => .skip) = true := by kernel_rfl
theorem ok20 : okCode Tryd.prog 55 (match Tryd.f20.body with | some c => c | none => .skip) = true := by kernel_rfl
theorem ca53 : callable Tryd.prog 53 = true := by kernel_rfl
theorem ca55 : callable Tryd.prog 55 = true := by kernel_rfl
theorem ca54 : callable Tryd.prog 54 = true := by kernel_rfl
theorem ca56 : callable Tryd.prog 56 = true := by kernel_rfl
theorem ca57 : callable Tryd.prog 57 = true := by kernel_rfl
theorem bd38_0_1_3 : ∀ (x0 : ByteArray) (x1 : ByteArray) (x3 : Option Addr) (x3n x3c : Nat) , abuild Tryd.prog 38 #[(0, .string x0), (1, .string x1), (3, .slice x3 x3n x3c)] = some (.agg #[.string x0, .string x1, .int .i64 0, .slice x3 x3n x3c]) := by intros; kernel_rfl
theorem ca58 : callable Tryd.prog 58 = true := by kernel_rfl
theorem ca62 : callable Tryd.prog 62 = true := by kernel_rfl
theorem ca61 : callable Tryd.prog 61 = true := by kernel_rfl
theorem ca63 : callable Tryd.prog 63 = true := by kernel_rfl
theorem bd38_ : abuild Tryd.prog 38 #[] = some (.agg #[.string ⟨#[]⟩, .string ⟨#[]⟩, .int .i64 0, .slice none 0 0]) := by kernel_rfl
theorem ca64 : callable Tryd.prog 64 = true := by kernel_rfl
theorem ca65 : callable Tryd.prog 65 = true := by kernel_rfl
theorem ca66 : callable Tryd.prog 66 = true := by kernel_rfl
theorem ca67 : callable Tryd.prog 67 = true := by kernel_rfl
theorem ze85 : azero Tryd.prog 85 = some (.map none) := by kernel_rfl
theorem sc85 : scalar (.map none) = true := by simp [scalar, leaf]
theorem sz85 : asize Tryd.prog 85 = some 1 := by kernel_rfl
theorem ag85 : isAgg? Tryd.prog 85 = some false := by kernel_rfl
theorem ca70 : callable Tryd.prog 70 = true := by kernel_rfl
theorem ca71 : callable Tryd.prog 71 = true := by kernel_rfl
theorem ca72 : callable Tryd.prog 72 = true := by kernel_rfl
theorem ca73 : callable Tryd.prog 73 = true := by kernel_rfl
theorem ca74 : callable Tryd.prog 74 = true := by kernel_rfl
theorem ok38 : okCode Tryd.prog 9 (match Tryd.f38.body with | some c => c | none => .skip) = true := by kernel_rfl
theorem co9 : Tryd.prog.concrete 9 = true := by kernel_rfl
theorem ze98 : azero Tryd.prog 98 = some (.agg #[.pointer none, .slice none 0 0]) := by kernel_rfl
theorem sc98 : scalar (.agg #[.pointer none, .slice none 0 0]) = true := by simp [scalar, leaf]
theorem sz98 : asize Tryd.prog 98 = some 2 := by kernel_rfl
theorem ca75 : callable Tryd.prog 75 = true := by kernel_rfl
theorem ca76 : callable Tryd.prog 76 = true := by kernel_rfl
theorem ca77 : callable Tryd.prog 77 = true := by kernel_rfl
theorem ca78 : callable Tryd.prog 78 = true := by kernel_rfl
theorem ok41 : okCode Tryd.prog 25 (match Tryd.f41.body with | some c => c | none => .skip) = true := by kernel_rfl
theorem u103 : Tryd.prog.underlying 103 = some (.int .u64) := by kernel_rfl
theorem ca79 : callable Tryd.prog 79 = true := by kernel_rfl
theorem ok43 : okCode Tryd.prog 17 (match Tryd.f43.body with | some c => c | none => .skip) = true := by kernel_rfl
theorem ca80 : callable Tryd.prog 80 = true := by kernel_rfl
theorem ok44 : okCode Tryd.prog 18 (match Tryd.f44.body with | some c => c | none => .skip) = true := by kernel_rfl
theorem ok45 : okCode Tryd.prog 9 (match Tryd.f45.body with | some c => c | none => .skip) = true := by kernel_rfl
theorem ok46 : okCode Tryd.prog 33 (match Tryd.f46.body with | some c => c | none => .skip) = true := by kernel_rfl
theorem ca81 : callable Tryd.prog 81 = true := by kernel_rfl
theorem ok47 : okCode Tryd.prog 35 (match Tryd.f47.body with | some c => c | none => .skip) = true := by kernel_rfl
theorem ok48 : okCode Tryd.prog 18 (match Tryd.f48.body with | some c => c | none => .skip) = true := by kernel_rfl
theorem ca82 : callable Tryd.prog 82 = true := by kernel_rfl
theorem ok49 : okCode Tryd.prog 22 (match Tryd.f49.body with | some c => c | none => .skip) = true := by kernel_rfl
theorem ok50 : okCode Tryd.prog 48 (match Tryd.f50.body with | some c => c | none => .skip) = true := by kernel_rfl
theorem ca83 : callable Tryd.prog 83 = true := by kernel_rfl
theorem ok51 : okCode Tryd.prog 17 (match Tryd.f51.body with | some c => c | none => .skip) = true := by kernel_rfl
theorem ca84 : callable Tryd.prog 84 = true := by kernel_rfl
theorem ok52 : okCode Tryd.prog 13 (match Tryd.f52.body with | some c => c | none => .skip) = true := by kernel_rfl
theorem ok53 : okCode Tryd.prog 28 (match Tryd.f53.body with | some c => c | none => .skip) = true := by kernel_rfl
theorem ca60 : callable Tryd.prog 60 = true := by kernel_rfl
theorem ca86 : callable Tryd.prog 86 = true := by kernel_rfl
theorem ca87 : callable Tryd.prog 87 = true := by kernel_rfl
theorem ag5 : isAgg? Tryd.prog 5 = some false := by kernel_rfl
theorem ca69 : callable Tryd.prog 69 = true := by kernel_rfl
theorem ca88 : callable Tryd.prog 88 = true := by kernel_rfl
theorem ca89 : callable Tryd.prog 89 = true := by kernel_rfl
theorem ca90 : callable Tryd.prog 90 = true := by kernel_rfl
theorem fa113_6 : ∀ b o L : Nat, afieldAddr Tryd.prog 113 6 (.pointer (some ⟨b, o, some L⟩)) = some (.pointer (some ⟨b, o + 6, some L⟩)) := by intros; kernel_rfl
theorem fa113_9 : ∀ b o L : Nat, afieldAddr Tryd.prog 113 9 (.pointer (some ⟨b, o, some L⟩)) = some (.pointer (some ⟨b, o + 15, some L⟩)) := by intros; kernel_rfl
theorem fa113_7 : ∀ b o L : Nat, afieldAddr Tryd.prog 113 7 (.pointer (some ⟨b, o, some L⟩)) = some (.pointer (some ⟨b, o + 10, some L⟩)) := by intros; kernel_rfl
theorem ca91 : callable Tryd.prog 91 = true := by kernel_rfl
theorem fa98_1 : ∀ b o L : Nat, afieldAddr Tryd.prog 98 1 (.pointer (some ⟨b, o, some L⟩)) = some (.pointer (some ⟨b, o + 1, some L⟩)) := by intros; kernel_rfl
theorem ag25 : isAgg? Tryd.prog 25 = some false := by kernel_rfl
theorem sz25 : asize Tryd.prog 25 = some 1 := by kernel_rfl
theorem ca92 : callable Tryd.prog 92 = true := by kernel_rfl
theorem u114 : Tryd.prog.underlying 114 = some (.pointer 5) := by kernel_rfl
theorem ca93 : callable Tryd.prog 93 = true := by kernel_rfl
theorem ok80 : okCode Tryd.prog 14 (match Tryd.f80.body with | some c => c | none => .skip) = true := by kernel_rfl
theorem ca94 : callable Tryd.prog 94 = true := by kernel_rfl
theorem ca95 : callable Tryd.prog 95 = true := by kernel_rfl
theorem ca96 : callable Tryd.prog 96 = true := by kernel_rfl
theorem ok81 : okCode Tryd.prog 5 (match Tryd.f81.body with | some c => c | none => .skip) = true := by kernel_rfl
theorem ca97 : callable Tryd.prog 97 = true := by kernel_rfl
theorem ok82 : okCode Tryd.prog 22 (match Tryd.f82.body with | some c => c | none => .skip) = true := by kernel_rfl
theorem ca98 : callable Tryd.prog 98 = true := by kernel_rfl
theorem ca99 : callable Tryd.prog 99 = true := by kernel_rfl
theorem ok83 : okCode Tryd.prog 9 (match Tryd.f83.body with | some c => c | none => .skip) = true := by kernel_rfl
theorem ok84 : okCode Tryd.prog 28 (match Tryd.f84.body with | some c => c | none => .skip) = true := by kernel_rfl
theorem ca100 : callable Tryd.prog 100 = true := by kernel_rfl
theorem bd113_0_1_2 : ∀ (x0 : Bool) (x1 : Int) (x2 : Int) , abuild Tryd.prog 113 #[(0, .bool x0), (1, .int .i64 x1), (2, .int .i64 x2)] = some (.agg #[.bool x0, .int .i64 x1, .int .i64 x2, .slice none 0 0, .int .i64 0, .nilIface, .string ⟨#[]⟩, .string ⟨#[]⟩, .int .i64 0, .slice none 0 0, .int .i64 0, .string ⟨#[]⟩, .int .i64 0, .slice none 0 0, .string ⟨#[]⟩, .slice none 0 0]) := by intros; kernel_rfl
theorem sz113 : asize Tryd.prog 113 = some 16 := by kernel_rfl
theorem u88 : Tryd.prog.underlying 88 = some (.pointer 113) := by kernel_rfl
theorem fa113_5 : ∀ b o L : Nat, afieldAddr Tryd.prog 113 5 (.pointer (some ⟨b, o, some L⟩)) = some (.pointer (some ⟨b, o + 5, some L⟩)) := by intros; kernel_rfl
theorem ag27 : isAgg? Tryd.prog 27 = some false := by kernel_rfl
theorem sz27 : asize Tryd.prog 27 = some 1 := by kernel_rfl
theorem fa113_2 : ∀ b o L : Nat, afieldAddr Tryd.prog 113 2 (.pointer (some ⟨b, o, some L⟩)) = some (.pointer (some ⟨b, o + 2, some L⟩)) := by intros; kernel_rfl
theorem ag108 : isAgg? Tryd.prog 108 = some false := by kernel_rfl
theorem sz108 : asize Tryd.prog 108 = some 1 := by kernel_rfl
theorem u108 : Tryd.prog.underlying 108 = some (.int .i64) := by kernel_rfl
theorem ca101 : callable Tryd.prog 101 = true := by kernel_rfl
theorem fa113_0 : ∀ b o L : Nat, afieldAddr Tryd.prog 113 0 (.pointer (some ⟨b, o, some L⟩)) = some (.pointer (some ⟨b, o + 0, some L⟩)) := by intros; kernel_rfl
theorem ag4 : isAgg? Tryd.prog 4 = some false := by kernel_rfl
theorem sz4 : asize Tryd.prog 4 = some 1 := by kernel_rfl
theorem fa98_0 : ∀ b o L : Nat, afieldAddr Tryd.prog 98 0 (.pointer (some ⟨b, o, some L⟩)) = some (.pointer (some ⟨b, o + 0, some L⟩)) := by intros; kernel_rfl
theorem ag96 : isAgg? Tryd.prog 96 = some false := by kernel_rfl
theorem sz96 : asize Tryd.prog 96 = some 1 := by kernel_rfl
theorem u96 : Tryd.prog.underlying 96 = some (.pointer 98) := by kernel_rfl
theorem u2 : Tryd.prog.underlying 2 = some (.int .i64) := by kernel_rfl
theorem ca104 : callable Tryd.prog 104 = true := by kernel_rfl
theorem ze123 : azero Tryd.prog 123 = some (.agg #[.int .u8 0, .int .u8 0, .int .u8 0, .int .u8 0, .int .u8 0, .int .u8 0, .int .u8 0, .int .u8 0, .int .u8 0, .int .u8 0, .int .u8 0, .int .u8 0, .int .u8 0, .int .u8 0, .int .u8 0, .int .u8 0, .int .u8 0, .int .u8 0, .int .u8 0, .int .u8 0, .int .u8 0, .int .u8 0, .int .u8 0, .int .u8 0]) := by kernel_rfl
theorem sc123 : scalar (.agg #[.int .u8 0, .int .u8 0, .int .u8 0, .int .u8 0, .int .u8 0, .int .u8 0, .int .u8 0, .int .u8 0, .int .u8 0, .int .u8 0, .int .u8 0, .int .u8 0, .int .u8 0, .int .u8 0, .int .u8 0, .int .u8 0, .int .u8 0, .int .u8 0, .int .u8 0, .int .u8 0, .int .u8 0, .int .u8 0, .int .u8 0, .int .u8 0]) = true := by simp [scalar, leaf]
theorem sz123 : asize Tryd.prog 123 = some 24 := by kernel_rfl
theorem ca105 : callable Tryd.prog 105 = true := by kernel_rfl
theorem u123 : Tryd.prog.underlying 123 = some (.array 24 5) := by kernel_rfl
theorem ca106 : callable Tryd.prog 106 = true := by kernel_rfl
theorem ca107 : callable Tryd.prog 107 = true := by kernel_rfl
theorem ok94 : okCode Tryd.prog 9 (match Tryd.f94.body with | some c => c | none => .skip) = true := by kernel_rfl
theorem ok95 : okCode Tryd.prog 17 (match Tryd.f95.body with | some c => c | none => .skip) = true := by kernel_rfl
theorem ca108 : callable Tryd.prog 108 = true := by kernel_rfl
theorem ca110 : callable Tryd.prog 110 = true := by kernel_rfl
theorem ca109 : callable Tryd.prog 109 = true := by kernel_rfl
theorem ca111 : callable Tryd.prog 111 = true := by kernel_rfl
theorem ze130 : azero Tryd.prog 130 = some (.agg #[.bool false, .bool false, .bool false, .bool false, .bool false, .bool false, .bool false, .bool false, .bool false, .bool false, .bool false, .bool false, .bool false, .bool false, .bool false, .bool false, .bool false, .bool false, .bool false, .bool false, .bool false, .bool false, .bool false, .bool false, .bool false, .bool false, .bool false, .bool false, .bool false, .bool false, .bool false, .bool false, .bool false, .bool false, .bool false, .bool false, .bool false, .bool false, .bool false, .bool false, .bool false, .bool false, .bool false, .bool false, .bool false, .bool false, .bool false, .bool false, .bool false, .bool false, .bool false, .bool false, .bool false, .bool false, .bool false, .bool false, .bool false, .bool false, .bool false, .bool false, .bool false, .bool false, .bool false, .bool false, .bool false, .bool false, .bool false, .bool false, .bool false, .bool false, .bool false, .bool false, .bool false, .bool false, .bool false, .bool false, .bool false, .bool false, .bool false, .bool false, .bool false, .bool false, .bool false, .bool false, .bool false, .bool false, .bool false, .bool false, .bool false, .bool false, .bool false, .bool false, .bool false, .bool false, .bool false, .bool false, .bool false, .bool false, .bool false, .bool false, .bool false, .bool false, .bool false, .bool false, .bool false, .bool false, .bool false, .bool false, .bool false, .bool false, .bool false, .bool false, .bool false, .bool false, .bool false, .bool false, .bool false, .bool false, .bool false, .bool false, .bool false, .bool false, .bool false, .bool false, .bool false, .bool false, .bool false, .bool false, .bool false, .bool false, .bool false, .bool false, .bool false, .bool false, .bool false, .bool false, .bool false, .bool false, .bool false, .bool false, .bool false, .bool false, .bool false, .bool false, .bool false, .bool false, .bool false, .bool false, .bool false, .bool false, .bool false, .bool false, .bool false, .bool false, .bool false, .bool false, .bool false, .bool false, .bool false, .bool false, .bool false, .bool false, .bool false, .bool false, .bool false, .bool false, .bool false, .bool false, .bool false, .bool false, .bool false, .bool false, .bool false, .bool false, .bool false, .bool false, .bool false, .bool false, .bool false, .bool false, .bool false, .bool false, .bool false, .bool false, .bool false, .bool false, .bool false, .bool false, .bool false, .bool false, .bool false, .bool false, .bool false, .bool false, .bool false, .bool false, .bool false, .bool false, .bool false, .bool false, .bool false, .bool false, .bool false, .bool false, .bool false, .bool false, .bool false, .bool false, .bool false, .bool false, .bool false, .bool false, .bool false, .bool false, .bool false, .bool false, .bool false, .bool false, .bool false, .bool false, .bool false, .bool false, .bool false, .bool false, .bool false, .bool false, .bool false, .bool false, .bool false, .bool false, .bool false, .bool false, .bool false, .bool false, .bool false, .bool false, .bool false, .bool false, .bool false, .bool false, .bool false, .bool false, .bool false, .bool false, .bool false, .bool false, .bool false, .bool false, .bool false, .bool false, .bool false, .bool false, .bool false, .bool false, .bool false, .bool false]) := by kernel_rfl
theorem sc130 : scalar (.agg #[.bool false, .bool false, .bool false, .bool false, .bool false, .bool false, .bool false, .bool false, .bool false, .bool false, .bool false, .bool false, .bool false, .bool false, .bool false, .bool false, .bool false, .bool false, .bool false, .bool false, .bool false, .bool false, .bool false, .bool false, .bool false, .bool false, .bool false, .bool false, .bool false, .bool false, .bool false, .bool false, .bool false, .bool false, .bool false, .bool false, .bool false, .bool false, .bool false, .bool false, .bool false, .bool false, .bool false, .bool false, .bool false, .bool false, .bool false, .bool false, .bool false, .bool false, .bool false, .bool false, .bool false, .bool false, .bool false, .bool false, .bool false, .bool false, .bool false, .bool false, .bool false, .bool false, .bool false, .bool false, .bool false, .bool false, .bool false, .bool false, .bool false, .bool false, .bool false, .bool false, .bool false, .bool false, .bool false, .bool false, .bool false, .bool false, .bool false, .bool false, .bool false, .bool false, .bool false, .bool false, .bool false, .bool false, .bool false, .bool false, .bool false, .bool false, .bool false, .bool false, .bool false, .bool false, .bool false, .bool false, .bool false, .bool false, .bool false, .bool false, .bool false, .bool false, .bool false, .bool false, .bool false, .bool false, .bool false, .bool false, .bool false, .bool false, .bool false, .bool false, .bool false, .bool false, .bool false, .bool false, .bool false, .bool false, .bool false, .bool false, .bool false, .bool false, .bool false, .bool false, .bool false, .bool false, .bool false, .bool false, .bool false, .bool false, .bool false, .bool false, .bool false, .bool false, .bool false, .bool false, .bool false, .bool false, .bool false, .bool false, .bool false, .bool false, .bool false, .bool false, .bool false, .bool false, .bool false, .bool false, .bool false, .bool false, .bool false, .bool false, .bool false, .bool false, .bool false, .bool false, .bool false, .bool false, .bool false, .bool false, .bool false, .bool false, .bool false, .bool false, .bool false, .bool false, .bool false, .bool false, .bool false, .bool false, .bool false, .bool false, .bool false, .bool false, .bool false, .bool false, .bool false, .bool false, .bool false, .bool false, .bool false, .bool false, .bool false, .bool false, .bool false, .bool false, .bool false, .bool false, .bool false, .bool false, .bool false, .bool false, .bool false, .bool false, .bool false, .bool false, .bool false, .bool false, .bool false, .bool false, .bool false, .bool false, .bool false, .bool false, .bool false, .bool false, .bool false, .bool false, .bool false, .bool false, .bool false, .bool false, .bool false, .bool false, .bool false, .bool false, .bool false, .bool false, .bool false, .bool false, .bool false, .bool false, .bool false, .bool false, .bool false, .bool false, .bool false, .bool false, .bool false, .bool false, .bool false, .bool false, .bool false, .bool false, .bool false, .bool false, .bool false, .bool false, .bool false, .bool false, .bool false, .bool false, .bool false, .bool false, .bool false, .bool false, .bool false, .bool false, .bool false, .bool false, .bool false, .bool false, .bool false, .bool false, .bool false, .bool false]) = true := by simp [scalar, leaf]
theorem sz130 : asize Tryd.prog 130 = some 256 := by kernel_rfl
theorem u130 : Tryd.prog.underlying 130 = some (.array 256 4) := by kernel_rfl
theorem ca113 : callable Tryd.prog 113 = true := by kernel_rfl
theorem ca112 : callable Tryd.prog 112 = true := by kernel_rfl
theorem ca115 : callable Tryd.prog 115 = true := by kernel_rfl
theorem ca114 : callable Tryd.prog 114 = true := by kernel_rfl
theorem ok98 : okCode Tryd.prog 9 (match Tryd.f98.body with | some c => c | none => .skip) = true := by kernel_rfl
theorem ok99 : okCode Tryd.prog 17 (match Tryd.f99.body with | some c => c | none => .skip) = true := by kernel_rfl
theorem ca116 : callable Tryd.prog 116 = true := by kernel_rfl
theorem ca117 : callable Tryd.prog 117 = true := by kernel_rfl
theorem ca118 : callable Tryd.prog 118 = true := by kernel_rfl
theorem fa113_4 : ∀ b o L : Nat, afieldAddr Tryd.prog 113 4 (.pointer (some ⟨b, o, some L⟩)) = some (.pointer (some ⟨b, o + 4, some L⟩)) := by intros; kernel_rfl
theorem ca119 : callable Tryd.prog 119 = true := by kernel_rfl
theorem ca120 : callable Tryd.prog 120 = true := by kernel_rfl
theorem ca121 : callable Tryd.prog 121 = true := by kernel_rfl
theorem fa113_1 : ∀ b o L : Nat, afieldAddr Tryd.prog 113 1 (.pointer (some ⟨b, o, some L⟩)) = some (.pointer (some ⟨b, o + 1, some L⟩)) := by intros; kernel_rfl
theorem ca123 : callable Tryd.prog 123 = true := by kernel_rfl
theorem ca122 : callable Tryd.prog 122 = true := by kernel_rfl
theorem u139 : Tryd.prog.underlying 139 = some (.array 20 103) := by kernel_rfl
theorem sz103 : asize Tryd.prog 103 = some 1 := by kernel_rfl
theorem ag103 : isAgg? Tryd.prog 103 = some false := by kernel_rfl
theorem ca124 : callable Tryd.prog 124 = true := by kernel_rfl
theorem u140 : Tryd.prog.underlying 140 = some (.int .u32) := by kernel_rfl
theorem ze141 : azero Tryd.prog 141 = some (.agg #[.int .u8 0, .int .u8 0, .int .u8 0, .int .u8 0, .int .u8 0, .int .u8 0, .int .u8 0, .int .u8 0, .int .u8 0, .int .u8 0, .int .u8 0, .int .u8 0, .int .u8 0, .int .u8 0, .int .u8 0, .int .u8 0, .int .u8 0, .int .u8 0, .int .u8 0, .int .u8 0, .int .u8 0, .int .u8 0, .int .u8 0, .int .u8 0, .int .u8 0, .int .u8 0, .int .u8 0, .int .u8 0, .int .u8 0, .int .u8 0, .int .u8 0, .int .u8 0, .int .u8 0, .int .u8 0, .int .u8 0, .int .u8 0, .int .u8 0, .int .u8 0, .int .u8 0, .int .u8 0, .int .u8 0, .int .u8 0, .int .u8 0, .int .u8 0, .int .u8 0, .int .u8 0, .int .u8 0, .int .u8 0, .int .u8 0, .int .u8 0, .int .u8 0, .int .u8 0, .int .u8 0, .int .u8 0, .int .u8 0, .int .u8 0, .int .u8 0, .int .u8 0, .int .u8 0, .int .u8 0, .int .u8 0, .int .u8 0, .int .u8 0, .int .u8 0, .int .u8 0]) := by kernel_rfl
theorem sc141 : scalar (.agg #[.int .u8 0, .int .u8 0, .int .u8 0, .int .u8 0, .int .u8 0, .int .u8 0, .int .u8 0, .int .u8 0, .int .u8 0, .int .u8 0, .int .u8 0, .int .u8 0, .int .u8 0, .int .u8 0, .int .u8 0, .int .u8 0, .int .u8 0, .int .u8 0, .int .u8 0, .int .u8 0, .int .u8 0, .int .u8 0, .int .u8 0, .int .u8 0, .int .u8 0, .int .u8 0, .int .u8 0, .int .u8 0, .int .u8 0, .int .u8 0, .int .u8 0, .int .u8 0, .int .u8 0, .int .u8 0, .int .u8 0, .int .u8 0, .int .u8 0, .int .u8 0, .int .u8 0, .int .u8 0, .int .u8 0, .int .u8 0, .int .u8 0, .int .u8 0, .int .u8 0, .int .u8 0, .int .u8 0, .int .u8 0, .int .u8 0, .int .u8 0, .int .u8 0, .int .u8 0, .int .u8 0, .int .u8 0, .int .u8 0, .int .u8 0, .int .u8 0, .int .u8 0, .int .u8 0, .int .u8 0, .int .u8 0, .int .u8 0, .int .u8 0, .int .u8 0, .int .u8 0]) = true := by simp [scalar, leaf]
theorem sz141 : asize Tryd.prog 141 = some 65 := by kernel_rfl
theorem ca125 : callable Tryd.prog 125 = true := by kernel_rfl
theorem u142 : Tryd.prog.underlying 142 = some (.int .u64) := by kernel_rfl
theorem ca126 : callable Tryd.prog 126 = true := by kernel_rfl
theorem u141 : Tryd.prog.underlying 141 = some (.array 65 5) := by kernel_rfl
theorem ag130 : isAgg? Tryd.prog 130 = some true := by kernel_rfl
theorem ca128 : callable Tryd.prog 128 = true := by kernel_rfl
theorem ca129 : callable Tryd.prog 129 = true := by kernel_rfl
theorem ca130 : callable Tryd.prog 130 = true := by kernel_rfl
theorem u21 : Tryd.prog.underlying 21 = some (.int .i32) := by kernel_rfl
theorem ca131 : callable Tryd.prog 131 = true := by kernel_rfl
theorem ca132 : callable Tryd.prog 132 = true := by kernel_rfl
theorem ca134 : callable Tryd.prog 134 = true := by kernel_rfl
theorem fa113_3 : ∀ b o L : Nat, afieldAddr Tryd.prog 113 3 (.pointer (some ⟨b, o, some L⟩)) = some (.pointer (some ⟨b, o + 3, some L⟩)) := by intros; kernel_rfl
theorem ca135 : callable Tryd.prog 135 = true := by kernel_rfl
theorem fa113_8 : ∀ b o L : Nat, afieldAddr Tryd.prog 113 8 (.pointer (some ⟨b, o, some L⟩)) = some (.pointer (some ⟨b, o + 14, some L⟩)) := by intros; kernel_rfl
theorem ca52 : callable Tryd.prog 52 = true := by kernel_rfl
theorem bs58_10 : ∀ (x0 : ByteArray) (x1 : ByteArray) (x2 : ByteArray) (x3 : ByteArray) (x4 : ByteArray) (x5 : ByteArray) (x6 : ByteArray) (x7 : ByteArray) (x8 : ByteArray) (x9 : ByteArray) (S : St), abuildSlice Tryd.prog S 58 10 #[(0, .string x0), (1, .string x1), (2, .string x2), (3, .string x3), (4, .string x4), (5, .string x5), (6, .string x6), (7, .string x7), (8, .string x8), (9, .string x9)] = some (.slice (some ⟨S.next, 0, some 10⟩) 10 10, S.push ⟨[.string x0, .string x1, .string x2, .string x3, .string x4, .string x5, .string x6, .string x7, .string x8, .string x9], 9, true, 0⟩) := by intros; kernel_rfl
theorem bs58_2 : ∀ (x0 : ByteArray) (x1 : ByteArray) (S : St), abuildSlice Tryd.prog S 58 2 #[(0, .string x0), (1, .string x1)] = some (.slice (some ⟨S.next, 0, some 2⟩) 2 2, S.push ⟨[.string x0, .string x1], 9, true, 0⟩) := by intros; kernel_rfl
theorem bs22_2 : ∀ (x0 y0 : ByteArray) (x1 y1 : ByteArray) (S : St), abuildSlice Tryd.prog S 22 2 #[(0, .agg #[.string x0, .string y0]), (1, .agg #[.string x1, .string y1])] = some (.slice (some ⟨S.next, 0, some 4⟩) 2 2, S.push ⟨[.string x0, .string y0, .string x1, .string y1], 50, true, 0⟩) := by intros; kernel_rfl
theorem bs22_1 : ∀ (x0 y0 : ByteArray) (S : St), abuildSlice Tryd.prog S 22 1 #[(0, .agg #[.string x0, .string y0])] = some (.slice (some ⟨S.next, 0, some 2⟩) 1 1, S.push ⟨[.string x0, .string y0], 50, true, 0⟩) := by intros; kernel_rfl
theorem bs70_12 : ∀ (x0 : Int) (x1 : Int) (x2 : Int) (x3 : Int) (x4 : Int) (x5 : Int) (x6 : Int) (x7 : Int) (x8 : Int) (x9 : Int) (x10 : Int) (x11 : Int) (S : St), abuildSlice Tryd.prog S 70 12 #[(0, .int .i64 x0), (1, .int .i64 x1), (2, .int .i64 x2), (3, .int .i64 x3), (4, .int .i64 x4), (5, .int .i64 x5), (6, .int .i64 x6), (7, .int .i64 x7), (8, .int .i64 x8), (9, .int .i64 x9), (10, .int .i64 x10), (11, .int .i64 x11)] = some (.slice (some ⟨S.next, 0, some 12⟩) 12 12, S.push ⟨[.int .i64 x0, .int .i64 x1, .int .i64 x2, .int .i64 x3, .int .i64 x4, .int .i64 x5, .int .i64 x6, .int .i64 x7, .int .i64 x8, .int .i64 x9, .int .i64 x10, .int .i64 x11], 3, true, 0⟩) := by intros; kernel_rfl
theorem bs58_12 : ∀ (x0 : ByteArray) (x1 : ByteArray) (x2 : ByteArray) (x3 : ByteArray) (x4 : ByteArray) (x5 : ByteArray) (x6 : ByteArray) (x7 : ByteArray) (x8 : ByteArray) (x9 : ByteArray) (x10 : ByteArray) (x11 : ByteArray) (S : St), abuildSlice Tryd.prog S 58 12 #[(0, .string x0), (1, .string x1), (2, .string x2), (3, .string x3), (4, .string x4), (5, .string x5), (6, .string x6), (7, .string x7), (8, .string x8), (9, .string x9), (10, .string x10), (11, .string x11)] = some (.slice (some ⟨S.next, 0, some 12⟩) 12 12, S.push ⟨[.string x0, .string x1, .string x2, .string x3, .string x4, .string x5, .string x6, .string x7, .string x8, .string x9, .string x10, .string x11], 9, true, 0⟩) := by intros; kernel_rfl
theorem bs22_3 : ∀ (x0 y0 : ByteArray) (x1 y1 : ByteArray) (x2 y2 : ByteArray) (S : St), abuildSlice Tryd.prog S 22 3 #[(0, .agg #[.string x0, .string y0]), (1, .agg #[.string x1, .string y1]), (2, .agg #[.string x2, .string y2])] = some (.slice (some ⟨S.next, 0, some 6⟩) 3 3, S.push ⟨[.string x0, .string y0, .string x1, .string y1, .string x2, .string y2], 50, true, 0⟩) := by intros; kernel_rfl
theorem bs58_3 : ∀ (x0 : ByteArray) (x1 : ByteArray) (x2 : ByteArray) (S : St), abuildSlice Tryd.prog S 58 3 #[(0, .string x0), (1, .string x1), (2, .string x2)] = some (.slice (some ⟨S.next, 0, some 3⟩) 3 3, S.push ⟨[.string x0, .string x1, .string x2], 9, true, 0⟩) := by intros; kernel_rfl
theorem bs58_1 : ∀ (x0 : ByteArray) (S : St), abuildSlice Tryd.prog S 58 1 #[(0, .string x0)] = some (.slice (some ⟨S.next, 0, some 1⟩) 1 1, S.push ⟨[.string x0], 9, true, 0⟩) := by intros; kernel_rfl
theorem bs22_0 : ∀ (S : St), abuildSlice Tryd.prog S 22 0 #[] = some (.slice (some ⟨S.next, 0, some 0⟩) 0 0, S.push ⟨[], 50, true, 0⟩) := by intros; kernel_rfl
theorem bs25_1 : ∀ (x0 : Int) (S : St), abuildSlice Tryd.prog S 25 1 #[(0, .int .u8 x0)] = some (.slice (some ⟨S.next, 0, some 1⟩) 1 1, S.push ⟨[.int .u8 x0], 5, true, 0⟩) := by intros; kernel_rfl
def PF := And.intro @ca9 (And.intro @ze24 (And.intro @sc24 (And.intro @sz24 (And.intro @ca10 (And.intro @ca11 (And.intro @ca12 (And.intro @u9 (And.intro @fa24_0 (And.intro @ag3 (And.intro @sz3 (And.intro @u3 (And.intro @fa24_1 (And.intro @ag9 (And.intro @sz9 (And.intro @fa24_2 (And.intro @fa24_3 (And.intro @ag22 (And.intro @sz22 (And.intro @u22 (And.intro @ca13 (And.intro @u25 (And.intro @sz5 (And.intro @ze5 (And.intro @sc5 (And.intro @u5 (And.intro @by5 (And.intro @ca14 (And.intro @ca15 (And.intro @sz38 (And.intro @ag38 (And.intro @ca16 (And.intro @fa38_0 (And.intro @fa38_1 (And.intro @fa38_2 (And.intro @fa38_3 (And.intro @u4 (And.intro @ag24 (And.intro @ze38 (And.intro @sc38 (And.intro @ca17 (And.intro @ca18 (And.intro @ca19 (And.intro @ca20 (And.intro @sz49 (And.intro @sz50 (And.intro @ze50 (And.intro @sc50 (And.intro @by50 (And.intro @ag50 (And.intro @fa49_0 (And.intro @ca21 (And.intro @ca22 (And.intro @fa49_1 (And.intro @ca23 (And.intro @ca24 (And.intro @ca25 (And.intro @ca26 (And.intro @ca27 (And.intro @ca28 (And.intro @fa50_0 (And.intro @fa50_1 (And.intro @ca29 (And.intro @ca30 (And.intro @u58 (And.intro @ze9 (And.intro @sc9 (And.intro @by9 (And.intro @ca31 (And.intro @ca32 (And.intro @ca33 (And.intro @ca34 (And.intro @ca35 (And.intro @ca36 (And.intro @ca37 (And.intro @ca38 (And.intro @bd24_ (And.intro @co68 (And.intro @ca40 (And.intro @ca39 (And.intro @bd50_0_1 (And.intro @bd24_0_1_2_3 (And.intro @ca41 (And.intro @ca42 (And.intro @u70 (And.intro @ze3 (And.intro @sc3 (And.intro @by3 (And.intro @bd38_0_1_2_3 (And.intro @bd38_0_1 (And.intro @ca43 (And.intro @ca44 (And.intro @ca46 (And.intro @ca47 (And.intro @ca48 (And.intro @ca49 (And.intro @ca50 (And.intro @ca51 (And.intro @ca53 (And.intro @ca55 (And.intro @ca54 (And.intro @ca56 (And.intro @ca57 (And.intro @bd38_0_1_3 (And.intro @ca58 (And.intro @ca62 (And.intro @ca61 (And.intro @ca63 (And.intro @bd38_ (And.intro @ca64 (And.intro @ca65 (And.intro @ca66 (And.intro @ca67 (And.intro @ze85 (And.intro @sc85 (And.intro @sz85 (And.intro @ag85 (And.intro @ca70 (And.intro @ca71 (And.intro @ca72 (And.intro @ca73 (And.intro @ca74 (And.intro @co9 (And.intro @ze98 (And.intro @sc98 (And.intro @sz98 (And.intro @ca75 (And.intro @ca76 (And.intro @ca77 (And.intro @ca78 (And.intro @u103 (And.intro @ca79 (And.intro @ca80 (And.intro @ca81 (And.intro @ca82 (And.intro @ca83 (And.intro @ca84 (And.intro @ca60 (And.intro @ca86 (And.intro @ca87 (And.intro @ag5 (And.intro @ca69 (And.intro @ca88 (And.intro @ca89 (And.intro @ca90 (And.intro @fa113_6 (And.intro @fa113_9 (And.intro @fa113_7 (And.intro @ca91 (And.intro @fa98_1 (And.intro @ag25 (And.intro @sz25 (And.intro @ca92 (And.intro @u114 (And.intro @ca93 (And.intro @ca94 (And.intro @ca95 (And.intro @ca96 (And.intro @ca97 (And.intro @ca98 (And.intro @ca99 (And.intro @ca100 (And.intro @bd113_0_1_2 (And.intro @sz113 (And.intro @u88 (And.intro @fa113_5 (And.intro @ag27 (And.intro @sz27 (And.intro @fa113_2 (And.intro @ag108 (And.intro @sz108 (And.intro @u108 (And.intro @ca101 (And.intro @fa113_0 (And.intro @ag4 (And.intro @sz4 (And.intro @fa98_0 (And.intro @ag96 (And.intro @sz96 (And.intro @u96 (And.intro @u2 (And.intro @ca104 (And.intro @ze123 (And.intro @sc123 (And.intro @sz123 (And.intro @ca105 (And.intro @u123 (And.intro @ca106 (And.intro @ca107 (And.intro @ca108 (And.intro @ca110 (And.intro @ca109 (And.intro @ca111 (And.intro @ze130 (And.intro @sc130 (And.intro @sz130 (And.intro @u130 (And.intro @ca113 (And.intro @ca112 (And.intro @ca115 (And.intro @ca114 (And.intro @ca116 (And.intro @ca117 (And.intro @ca118 (And.intro @fa113_4 (And.intro @ca119 (And.intro @ca120 (And.intro @ca121 (And.intro @fa113_1 (And.intro @ca123 (And.intro @ca122 (And.intro @u139 (And.intro @sz103 (And.intro @ag103 (And.intro @ca124 (And.intro @u140 (And.intro @ze141 (And.intro @sc141 (And.intro @sz141 (And.intro @ca125 (And.intro @u142 (And.intro @ca126 (And.intro @u141 (And.intro @ag130 (And.intro @ca128 (And.intro @ca129 (And.intro @ca130 (And.intro @u21 (And.intro @ca131 (And.intro @ca132 (And.intro @ca134 (And.intro @fa113_3 (And.intro @ca135 (And.intro @fa113_8 (And.intro @ca52 (And.intro @bs58_10 (And.intro @bs58_2 (And.intro @bs22_2 (And.intro @bs22_1 (And.intro @bs70_12 (And.intro @bs58_12 (And.intro @bs22_3 (And.intro @bs58_3 (And.intro @bs58_1 (And.intro @bs22_0 (@bs25_1)))))))))))))))))))))))))))))))))))))))))))))))))))))))))))))))))))))))))))))))))))))))))))))))))))))))))))))))))))))))))))))))))))))))))))))))))))))))))))))))))))))))))))))))))))))))))))))))))))))))))))))))))))))))))))))))))))))))))))))))))))))
def UF := And.intro sz24 (And.intro u9 (And.intro sz3 (And.intro u3 (And.intro sz9 (And.intro sz22 (And.intro u22 (And.intro u25 (And.intro sz5 (And.intro u5 (And.intro sz38 (And.intro u4 (And.intro sz49 (And.intro sz50 (And.intro u58 (And.intro u70 (And.intro sz85 (And.intro sz98 (And.intro u103 (And.intro sz25 (And.intro u114 (And.intro sz113 (And.intro u88 (And.intro sz27 (And.intro sz108 (And.intro u108 (And.intro sz4 (And.intro sz96 (And.intro u96 (And.intro u2 (And.intro sz123 (And.intro u123 (And.intro sz130 (And.intro u130 (And.intro u139 (And.intro sz103 (And.intro u140 (And.intro sz141 (And.intro u142 (And.intro u141 u21)))))))))))))))))))))))))))))))))))))))
end Go.Proofs.YtdmbgbennlnpcaaDoor.Q
namespace Go.Proofs.YtdmbgbennlnpcaaDoor.Q
open Go Go.Proofs.YtdmbgbennlnpcaaDoorAbs Go.Proofs
set_option linter.unusedVariables false
set_option linter.unusedSimpArgs false
abbrev Fld := ByteArray × ByteArray
def u8v (l : List UInt8) : List Value := l.map fun b => .int .u8 b.toNat
def fldv (l : List Fld) : List Value := l.flatMap fun f => [.string f.1, .string f.2]
def trimB (s : ByteArray) : ByteArray := ⟨(Go.Lib.trimS s.data.toList [32, 9]).toArray⟩
def digB (c : Int) : Bool := decide (48 ≤ c) && decide (c ≤ 57)
def letB (c : Int) : Bool := (decide (97 ≤ c) && decide (c ≤ 122)) || (decide (65 ≤ c) && decide (c ≤ 90))
def valB (c : Int) : Bool := decide (c = 9) || (decide (32 ≤ c) && !decide (c = 127))
def visB (c : Int) : Bool := decide (32 < c) && decide (c < 127)
def tokS : ByteArray := ⟨#[33, 35, 36, 37, 38, 39, 42, 43, 45, 46, 94, 95, 96, 124, 126]⟩
def tokB (c : Int) : Bool := digB c || letB c || decide (0 ≤ Go.Lib.indexByte tokS.data.toList c.toNat.toUInt8)
def isTokB (s : ByteArray) : Bool := !s.data.toList.isEmpty && s.data.toList.all fun c => tokB (c.toNat : Int)
def allB (p : Int → Bool) (s : ByteArray) : Bool := s.data.toList.all fun c => p (c.toNat : Int)
def lineB (f : Fld) : List UInt8 := f.1.data.toList ++ [58, 32] ++ f.2.data.toList ++ [13, 10]
def linesB (l : List Fld) : List UInt8 := l.flatMap lineB
structure OkFld (f : Fld) : Prop where
  tok : isTokB f.1 = true
  val : allB valB f.2 = true
  trim : trimB f.2 = f.2
def fineB (l : List Fld) : Prop := l.length ≤ 64 ∧ ∀ f ∈ l, OkFld f
def headB (first : List UInt8) (l : List Fld) : List UInt8 := first ++ [13, 10] ++ linesB l ++ [13, 10]
def httpL : List UInt8 := [32, 72, 84, 84, 80, 47, 49, 46]
def firstQ (m t : ByteArray) (d : UInt8) : List UInt8 := m.data.toList ++ [32] ++ t.data.toList ++ httpL ++ [d]
theorem split_at {c : UInt8} : ∀ {a a' r r' : List UInt8}, c ∉ a → c ∉ a' → a ++ c :: r = a' ++ c :: r' → a = a' ∧ r = r'
  | [], [], r, r', _, _, h => by simpa using h
  | [], x :: a', r, r', _, h2, h => by
    simp only [List.nil_append, List.cons_append, List.cons.injEq] at h
    exact absurd h.1 (fun q => h2 (by simp [q]))
  | x :: a, [], r, r', h1, _, h => by
    simp only [List.nil_append, List.cons_append, List.cons.injEq] at h
    exact absurd h.1 (fun q => h1 (by simp [q]))
  | x :: a, y :: a', r, r', h1, h2, h => by
    simp only [List.cons_append, List.cons.injEq] at h
    obtain ⟨p, q⟩ := split_at (a := a) (a' := a') (fun z => h1 (by simp [z])) (fun z => h2 (by simp [z])) h.2
    exact ⟨by rw [h.1, p], q⟩
theorem tok_no : ∀ c : UInt8, tokB (c.toNat : Int) = true → c ≠ 13 ∧ c ≠ 58 ∧ c ≠ 32 := by
  intro c h
  refine ⟨fun q => ?_, fun q => ?_, fun q => ?_⟩ <;> (subst q; revert h; decide)
theorem val_no : ∀ c : UInt8, valB (c.toNat : Int) = true → c ≠ 13 := by
  intro c h q; subst q; revert h; decide
theorem vis_no : ∀ c : UInt8, visB (c.toNat : Int) = true → c ≠ 32 := by
  intro c h q; subst q; revert h; decide
theorem isTok_no {s : ByteArray} (h : isTokB s = true) : s.data.toList ≠ [] ∧ ∀ c ∈ s.data.toList, c ≠ 13 ∧ c ≠ 58 ∧ c ≠ 32 := by
  simp only [isTokB, Bool.and_eq_true, Bool.not_eq_true', List.isEmpty_eq_false_iff, List.all_eq_true] at h
  exact ⟨h.1, fun c hc => tok_no c (h.2 c hc)⟩
theorem ba_ext {a b : ByteArray} (h : a.data.toList = b.data.toList) : a = b := ByteArray.ext (Array.toList_inj.1 h)
theorem lines_inj : ∀ {l l' : List Fld}, (∀ f ∈ l, OkFld f) → (∀ f ∈ l', OkFld f) → linesB l ++ [13, 10] = linesB l' ++ [13, 10] → l = l'
  | [], [], _, _, _ => rfl
  | [], f :: l', _, h2, h => by
    exfalso
    obtain ⟨p, q⟩ := isTok_no (h2 f (by simp)).tok
    obtain ⟨x, xs, hx⟩ : ∃ x xs, f.1.data.toList = x :: xs := by
      cases hc : f.1.data.toList with
      | nil => exact absurd hc p
      | cons x xs => exact ⟨x, xs, rfl⟩
    simp only [linesB, lineB, List.flatMap_cons, List.flatMap_nil, hx, List.cons_append, List.nil_append, List.cons.injEq] at h
    exact (q x (by simp [hx])).1 h.1.symm
  | f :: l, [], h1, _, h => by
    exfalso
    obtain ⟨p, q⟩ := isTok_no (h1 f (by simp)).tok
    obtain ⟨x, xs, hx⟩ : ∃ x xs, f.1.data.toList = x :: xs := by
      cases hc : f.1.data.toList with
      | nil => exact absurd hc p
      | cons x xs => exact ⟨x, xs, rfl⟩
    simp only [linesB, lineB, List.flatMap_cons, List.flatMap_nil, hx, List.cons_append, List.nil_append, List.cons.injEq] at h
    exact (q x (by simp [hx])).1 h.1
  | f :: l, g :: l', h1, h2, h => by
    have hf := h1 f (by simp)
    have hg := h2 g (by simp)
    have e : ∀ (f : Fld) (l : List Fld), linesB (f :: l) ++ [13, 10] = f.1.data.toList ++ 58 :: (32 :: (f.2.data.toList ++ 13 :: (10 :: (linesB l ++ [13, 10])))) := fun f l => by simp [linesB, lineB]
    rw [e, e] at h
    obtain ⟨p1, q1⟩ := split_at (fun z => ((isTok_no hf.tok).2 _ z).2.1 rfl) (fun z => ((isTok_no hg.tok).2 _ z).2.1 rfl) h
    simp only [List.cons.injEq, true_and] at q1
    have hv : ∀ {f : Fld}, OkFld f → (13 : UInt8) ∉ f.2.data.toList := fun hf z => by
      have := hf.val
      simp only [allB, List.all_eq_true] at this
      exact val_no _ (this _ z) rfl
    obtain ⟨p2, q2⟩ := split_at (hv hf) (hv hg) q1
    simp only [List.cons.injEq, true_and] at q2
    have := lines_inj (fun x hx => h1 x (by simp [hx])) (fun x hx => h2 x (by simp [hx])) q2
    rw [this, show f = g from Prod.ext (ba_ext p1) (ba_ext p2)]
theorem req_inj {m t m' t' : ByteArray} {d d' : UInt8} {l l' : List Fld} (hm : isTokB m = true) (hm' : isTokB m' = true) (ht : allB visB t = true) (ht' : allB visB t' = true) (hl : ∀ f ∈ l, OkFld f) (hl' : ∀ f ∈ l', OkFld f)
    (h : headB (firstQ m t d) l = headB (firstQ m' t' d') l') : m = m' ∧ t = t' ∧ d = d' ∧ l = l' := by
  have e : ∀ (m t : ByteArray) (d : UInt8) (l : List Fld), headB (firstQ m t d) l = m.data.toList ++ 32 :: (t.data.toList ++ 32 :: ([72, 84, 84, 80, 47, 49, 46] ++ d :: (13 :: 10 :: (linesB l ++ [13, 10])))) := fun m t d l => by simp [headB, firstQ, httpL]
  rw [e, e] at h
  obtain ⟨p1, q1⟩ := split_at (fun z => ((isTok_no hm).2 _ z).2.2 rfl) (fun z => ((isTok_no hm').2 _ z).2.2 rfl) h
  have hv : ∀ {t : ByteArray}, allB visB t = true → (32 : UInt8) ∉ t.data.toList := fun ht z => by
    simp only [allB, List.all_eq_true] at ht
    exact vis_no _ (ht _ z) rfl
  obtain ⟨p2, q2⟩ := split_at (hv ht) (hv ht') q1
  simp only [List.cons_append, List.nil_append, List.cons.injEq, true_and] at q2
  exact ⟨ba_ext p1, ba_ext p2, q2.1, lines_inj hl hl' q2.2⟩
end Go.Proofs.YtdmbgbennlnpcaaDoor.Q
namespace Go.Proofs.YtdmbgbennlnpcaaDoor.Q
open Go Go.Proofs.YtdmbgbennlnpcaaDoorAbs Go.Proofs
set_option linter.unusedVariables false
set_option linter.unusedSimpArgs false
def blk (c : UInt8) : Bool := c == 32 || c == 9
theorem drop_len {p : UInt8 → Bool} : ∀ (l : List UInt8), (l.dropWhile p).length ≤ l.length
  | [] => Nat.le_refl _
  | x :: l => by
    rw [List.dropWhile_cons]
    split
    · exact Nat.le_trans (drop_len l) (Nat.le_succ _)
    · exact Nat.le_refl _
theorem drop_same {p : UInt8 → Bool} : ∀ (l : List UInt8), (l.dropWhile p).length = l.length ↔ (l = [] ∨ p (l.getD 0 0) = false)
  | [] => by simp
  | x :: l => by
    rw [List.dropWhile_cons]
    have := drop_len (p := p) l
    split
    · rename_i h
      simp [h]; omega
    · rename_i h
      simp at h
      simp [h]
theorem drop_eq {p : UInt8 → Bool} {l : List UInt8} (h : l = [] ∨ p (l.getD 0 0) = false) : l.dropWhile p = l := by
  cases l with
  | nil => rfl
  | cons x l =>
    rcases h with h | h
    · cases h
    · simp at h
      rw [List.dropWhile_cons, if_neg (by simp [h])]
theorem rev_get {l : List UInt8} (h : l ≠ []) : l.reverse.getD 0 0 = l.getD (l.length - 1) 0 := by
  have := List.length_pos_iff.2 h
  simp [List.getD_eq_getElem?_getD, List.getElem?_reverse this]
theorem bl_mem (c : UInt8) : ([32, 9] : List UInt8).contains c = blk c := by
  simp [blk]
  rfl
theorem trim_iff (s : ByteArray) : trimB s = s ↔ (s.data.toList = [] ∨ (blk (s.data.toList.getD 0 0) = false ∧ blk (s.data.toList.getD (s.data.toList.length - 1) 0) = false)) := by
  have hp : (fun b => ([32, 9] : List UInt8).contains b) = blk := funext bl_mem
  have e1 : trimB s = s ↔ Go.Lib.trimS s.data.toList [32, 9] = s.data.toList := by
    constructor
    · intro h
      have := congrArg (fun t : ByteArray => t.data.toList) h
      simpa [trimB] using this
    · intro h
      exact ba_ext (by simpa [trimB] using h)
  rw [e1]
  generalize s.data.toList = l
  have e2 : Go.Lib.trimS l [32, 9] = ((l.reverse.dropWhile blk).reverse).dropWhile blk := by
    rw [← hp]; rfl
  rw [e2]
  by_cases h0 : l = []
  · subst h0; simp
  have hr : l.reverse ≠ [] := by simpa using h0
  constructor
  · intro h
    have hl := congrArg List.length h
    have a1 := drop_len (p := blk) (l.reverse.dropWhile blk).reverse
    have a2 := drop_len (p := blk) l.reverse
    simp only [List.length_reverse] at a1 a2
    have a3 : (l.reverse.dropWhile blk).length = l.reverse.length := by simp only [List.length_reverse]; omega
    have a4 := (drop_same _).1 a3
    have a5 := a4.resolve_left hr
    have a6 : l.reverse.dropWhile blk = l.reverse := drop_eq (.inr a5)
    rw [a6, List.reverse_reverse] at h
    have a7 := (drop_same (p := blk) l).1 (by rw [h])
    rw [rev_get h0] at a5
    exact .inr ⟨a7.resolve_left h0, a5⟩
  · rintro (h | ⟨h1, h2⟩)
    · exact absurd h h0
    · have a6 : l.reverse.dropWhile blk = l.reverse := drop_eq (.inr (by rw [rev_get h0]; exact h2))
      rw [a6, List.reverse_reverse, drop_eq (.inr h1)]
end Go.Proofs.YtdmbgbennlnpcaaDoor.Q
namespace Go.Proofs.YtdmbgbennlnpcaaDoorAbs
set_option linter.unusedVariables false
set_option linter.unusedSimpArgs false
structure KpL (S S' : St) : Prop where
  next : S.next ≤ S'.next
  get : ∀ i, i < S.next → (none : Option Nat) ≠ some i → S'.get i = S.get i
  low : ∀ m, m ≤ S.low → m ≤ S.next → m ≤ S'.low
theorem KpL.kept {S S' : St} (h : KpL S S') : Kept S S' none := ⟨h.next, h.get⟩
theorem KpL.refl (S : St) : KpL S S := ⟨Nat.le_refl _, fun _ _ _ => rfl, fun _ h _ => h⟩
theorem KpL.trans {S S1 S2 : St} (h : KpL S S1) (k : KpL S1 S2) : KpL S S2 := ⟨Nat.le_trans h.1 k.1, fun i hi ho => (k.2 i (Nat.lt_of_lt_of_le hi h.1) ho).trans (h.2 i hi ho), fun m h1 h2 => k.low m (h.low m h1 h2) (Nat.le_trans h2 h.1)⟩
theorem KpL.push (S : St) (b : Blk) : KpL S (S.push b) := ⟨Nat.le_succ _, fun i hi _ => S.get_push_lt b hi, fun _ h _ => h⟩
theorem KpL.upd {S0 S1 : St} (h : KpL S0 S1) {i : Nat} (hi : S0.next ≤ i) (b : Blk) : KpL S0 (S1.upd i b) :=
  ⟨h.1, fun j hj _ => (S1.get_upd_ne b (by omega)).trans (h.2 j hj (by simp)), fun m h1 h2 => Nat.le_min.2 ⟨h.low m h1 h2, Nat.le_trans h2 hi⟩⟩
section
variable {P : Program} {I : Prims} {ops : Array Oper} {r : List Oper} {Q : Env → St → Prop} {e : Env} {S : St} {dst : Option Tmp} {ty : TypeId} {pos : String} {after : Array Edge}
theorem append_ownL {t tx elem size bytes n m : Nat} {z v x : Value} {xs ys : List Value} (hu : P.underlying t = some (.slice elem)) (hs : asize P elem = some size) (hb : abytes P elem = some bytes) (hz : azero P elem = some z)
    (hc : 0 < size ∧ 0 < bytes ∧ z.cells.size = size) (ho : Own elem size S v n xs) (hx : asrc P S tx size x = some (m, ys)) (hy : ys.length = m * size ∧ ys.all oneC = true) (hl : (3 * (n + m) + 2048) * bytes ≤ 281474976710656) :
    ∃ v' S', aappend P S t tx v x = some (v', S') ∧ Own elem size S' v' (n + m) (xs ++ ys) ∧ Kept S S' (blkOf v) ∧ (blkOf v' = blkOf v ∨ ∃ i, S.next ≤ i ∧ blkOf v' = some i) ∧ ∀ k, k ≤ S.low → (∀ b, blkOf v = some b → k ≤ b) → k ≤ S'.low := by
  obtain ⟨h0, h1, h2⟩ := ho
  have hlen : (xs ++ ys).length = (n + m) * size := by rw [List.length_append, h0, hy.1, Nat.add_mul]
  have hall : (xs ++ ys).all oneC = true := by rw [List.all_append, h1, hy.2]; rfl
  by_cases hm : m = 0
  · subst hm
    have : ys = [] := by simpa using hy.1
    subst this
    refine ⟨v, S, ?_, by simpa using ⟨h0, by simpa using h1, h2⟩, Kept.refl S _, .inl rfl, fun k h _ => h⟩
    rcases h2 with ⟨rfl, rfl⟩ | ⟨b, m', rfl, h2, h3, h4, h5⟩
    · simp [aappend, hu, hs, hb, hz, hc, hx]
    · simp [aappend, hu, hs, hb, hz, hc, hx]
  · rcases h2 with ⟨rfl, rfl⟩ | ⟨b, m', rfl, h2, h3, h4, h5⟩
    · have : xs = [] := by simpa using h0
      subst this
      simp only [Nat.zero_add] at hl hlen
      refine ⟨_, _, ?_, ⟨hlen.trans (by simp), by simpa using hy.2, .inr ⟨S.next, 0, rfl, ?_, Nat.zero_le _, ?_, by omega⟩⟩, Kept.push ⟨ys, elem, true, 0⟩ _, .inr ⟨S.next, Nat.le_refl _, rfl⟩, fun k h _ => h⟩
      · simp only [aappend, hu, hs, hb, hz, hc, hx, and_self, if_true, if_neg hm]
        rw [if_pos hl]
        simp
      · simpa using S.get_push_self _
      · simp
    · refine ⟨_, _, ?_, ⟨hlen, hall, .inr ⟨b, m', rfl, S.get_upd_self b _, ?_, h4, by omega⟩⟩, ⟨Nat.le_refl _, fun i hi hne => S.get_upd_ne _ (fun e => hne (by simp [blkOf, e]))⟩, .inl rfl, fun k h h' => Nat.le_min.2 ⟨h, h' b rfl⟩⟩
      · simp only [aappend, hu, hs, hb, hz, hc, hx, and_self, if_true, if_neg hm, h2]
        rw [if_pos ⟨trivial, trivial, h3, by simp [h0], h4, trivial, hl⟩]
        simp [List.length_append]
      · rw [List.length_append]; omega
theorem O_appendL {s x : Operand} {t tx elem size bytes n m : Nat} {z : Value} {xs ys : List Value} (hu : P.underlying t = some (.slice elem)) (hs : asize P elem = some size) (hb : abytes P elem = some bytes) (hz : azero P elem = some z)
    (hc : 0 < size ∧ 0 < bytes ∧ z.cells.size = size) (ho : Own elem size S (e.ev s) n xs) (hx : asrc P S tx size (e.ev x) = some (m, ys)) (hy : ys.length = m * size ∧ ys.all oneC = true) (hl : (3 * (n + m) + 2048) * bytes ≤ 281474976710656)
    (hk : ∀ v' S', Own elem size S' v' (n + m) (xs ++ ys) → Kept S S' (blkOf (e.ev s)) → (blkOf v' = blkOf (e.ev s) ∨ ∃ i, S.next ≤ i ∧ blkOf v' = some i) → (∀ k, k ≤ S.low → (∀ b, blkOf (e.ev s) = some b → k ≤ b) → k ≤ S'.low) → O P I ops r [] Q (e.putO dst v') S') :
    O P I ops (⟨dst, .call ⟨.builtin .append, #[s, x], #[t, tx]⟩, ty, pos, after, none⟩ :: r) [] Q e S := by
  obtain ⟨v', S', h1, h2, h3, h4, h5⟩ := append_ownL hu hs hb hz hc ho hx hy hl
  rw [O_step rfl]
  have : aop P e.ev ⟨dst, .call ⟨.builtin .append, #[s, x], #[t, tx]⟩, ty, pos, after, none⟩ S = some (v', S') := by
    rw [aop_builtin]
    show alt (aappend P S t tx (e.ev s) (e.ev x)) _ = _
    rw [h1, alt_some]
  rw [this]
  exact ⟨rfl, hk v' S' h2 h3 h4 h5⟩
end
end Go.Proofs.YtdmbgbennlnpcaaDoorAbs
