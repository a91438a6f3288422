/- The chunk reader on the runner: its functions, the law that feeds it, the plain part; for the inputs that each theorem names. -/
import Derived.Test.YtdfgdpjlbcnkfaaDoorCkV
-- UF: CkFacts
namespace Go.Proofs.YtdfgdpjlbcnkfaaDoor.Q
open Go Go.Proofs.YtdfgdpjlbcnkfaaDoorAbs Go.Proofs
set_option linter.unusedVariables false
set_option linter.unusedSimpArgs false
set_option maxRecDepth 100000
set_option maxHeartbeats 4000000
attribute [local irreducible] Go.Proofs.YtdfgdpjlbcnkfaaDoorAbs.O Go.Proofs.YtdfgdpjlbcnkfaaDoorAbs.W Go.Proofs.YtdfgdpjlbcnkfaaDoorAbs.C Go.Proofs.YtdfgdpjlbcnkfaaDoorAbs.OK Go.Proofs.YtdfgdpjlbcnkfaaDoorAbs.OKF Go.Proofs.YtdfgdpjlbcnkfaaDoorAbs.OKT Go.Proofs.YtdfgdpjlbcnkfaaDoorAbs.then_ Go.Proofs.YtdfgdpjlbcnkfaaDoorAbs.inBlock_ Go.Proofs.YtdfgdpjlbcnkfaaDoorAbs.bodyQ Go.Proofs.YtdfgdpjlbcnkfaaDoorAbs.Cont
/-- Bytes that can be read. -/
def Sl (S : St) (v : Value) (xs : List UInt8) : Prop :=
  ∃ a c, v = .slice a xs.length c ∧ (a = none → c = 0) ∧ (xs ≠ [] → ∃ b o L cs el own m, a = some ⟨b, o, some L⟩ ∧ (c = UNK + 1 ∨ xs.length ≤ c ∧ c < UNK) ∧ S.get b = some ⟨cs, el, own, m⟩ ∧ (own = true → m ≤ L ∧ o + xs.length ≤ L) ∧ (cs.drop o).take xs.length = u8v xs ∧ b < S.next)
/-- A value's block is none of the reader's. -/
def Apart (v : Value) (b : Nat) (tv lv : Value) : Prop := ∀ i, blkOf v = some i → i ≠ b ∧ blkOf tv ≠ some i ∧ blkOf lv ≠ some i
section
variable {I : Prims} {S : St} {Q : Value → St → Prop}
theorem Apart.mv {S S' : St} {v tv lv tv' lv' : Value} {b : Nat} (h : Apart v b tv lv) (k : Mv S S' b tv lv tv' lv') (hv : ∀ i, blkOf v = some i → i < S.next) : Apart v b tv' lv' := fun i hi => by
  obtain ⟨h1, h2, h3⟩ := h i hi
  have := hv i hi
  refine ⟨h1, fun e => ?_, fun e => ?_⟩
  · rcases k.t i e with q | q
    · exact h2 q
    · omega
  · rcases k.l i e with q | q
    · exact h3 q
    · omega
theorem own_mv {el sz n b : Nat} {S S' : St} {v tv lv tv' lv' : Value} {xs : List Value} (h : Own el sz S v n xs) (ha : Apart v b tv lv) (k : Mv S S' b tv lv tv' lv') : Own el sz S' v n xs := by
  refine ⟨h.1, h.2.1, ?_⟩
  rcases h.2.2 with q | ⟨b', m, rfl, h1, h2, h3, h4⟩
  · exact .inl q
  · obtain ⟨a1, a2, a3⟩ := ha b' rfl
    exact .inr ⟨b', m, rfl, (k.keep b' h3 a1 a2 a3).trans h1, h2, Nat.lt_of_lt_of_le h3 k.next, h4⟩
theorem sl_mv {b : Nat} {S S' : St} {v tv lv tv' lv' : Value} {xs : List UInt8} (h : Sl S v xs) (ha : Apart v b tv lv) (k : Mv S S' b tv lv tv' lv') : Sl S' v xs := by
  obtain ⟨a, c, rfl, h0, h1⟩ := h
  refine ⟨a, c, rfl, h0, fun hne => ?_⟩
  obtain ⟨b', o, L, cs, el, own, m, rfl, h2, h3, h4, h5, h6⟩ := h1 hne
  obtain ⟨a1, a2, a3⟩ := ha b' rfl
  exact ⟨b', o, L, cs, el, own, m, rfl, h2, (k.keep b' h6 a1 a2 a3).trans h3, h4, h5, Nat.lt_of_lt_of_le h6 k.next⟩
theorem sl_kept {S S' : St} {v : Value} {o' : Option Nat} {xs : List UInt8} (h : Sl S v xs) (k : Kept S S' o') (ho : ∀ i, o' = some i → blkOf v ≠ some i) : Sl S' v xs := by
  obtain ⟨a, c, rfl, h0, h1⟩ := h
  refine ⟨a, c, rfl, h0, fun hne => ?_⟩
  obtain ⟨b', o, L, cs, el, own, m, rfl, h2, h3, h4, h5, h6⟩ := h1 hne
  exact ⟨b', o, L, cs, el, own, m, rfl, h2, (k.2 b' h6 (fun e => ho b' e rfl)).trans h3, h4, h5, Nat.lt_of_lt_of_le h6 k.1⟩
theorem Rd.kept {S S' : St} {b m : Nat} {r : PRd} {tv lv : Value} {o : Option Nat} (h : Rd S b r tv lv m) (k : Kept S S' o) (ho : ∀ i, o = some i → i ≠ b ∧ blkOf tv ≠ some i ∧ blkOf lv ≠ some i) : Rd S' b r tv lv m :=
  ⟨(k.2 b h.hn (fun e => (ho b e).1 rfl)).trans h.cell, h.hm, Nat.lt_of_lt_of_le h.hn k.1, h.text.kept k (by
      cases o with
      | none => exact .inl rfl
      | some i => exact .inr (Ne.symm (ho i rfl).2.1)), h.trl.kept k (by
      cases o with
      | none => exact .inl rfl
      | some i => exact .inr (Ne.symm (ho i rfl).2.2)), h.n1, h.n2, h.n3⟩
theorem Mv.kept {S S1 S2 : St} {b : Nat} {tv lv tv1 lv1 : Value} {o : Option Nat} (h : Mv S S1 b tv lv tv1 lv1) (k : Kept S1 S2 o) (ho : ∀ i, o = some i → S.next ≤ i) : Mv S S2 b tv lv tv1 lv1 :=
  ⟨Nat.le_trans h.next k.1, fun i h1 h2 h3 h4 => (k.2 i (Nat.lt_of_lt_of_le h1 h.next) (fun e => by have := ho i e; omega)).trans (h.keep i h1 h2 h3 h4), h.t, h.l⟩
/-- What a reader is, always. -/
structure RInv (r : PRd) : Prop where
  most : 0 ≤ r.most ∧ r.most ≤ 1099511627776
  len : 0 ≤ r.len ∧ r.len ≤ r.most
  st : 0 ≤ r.state ∧ r.state ≤ 8
  dig : 0 ≤ r.digits ∧ r.digits ≤ 16
  left : 0 ≤ r.left ∧ r.left < 18446744073709551616
  extra : 0 ≤ r.extra ∧ r.extra ≤ 257 ∧ (r.err = none → r.extra ≤ 256) ∧ (r.err = none → r.state = 0 → r.extra = 0)
  sum : 0 ≤ r.sum ∧ r.sum ≤ 8193 ∧ (r.err = none → r.sum ≤ 8192)
  text : (r.text.length : Int) ≤ r.sum
  trl : r.trailers.length ≤ 64 ∧ (r.err = none → r.text ≠ [] → r.trailers.length < 64)
  col : r.state = 7 → r.text ≠ [] → 0 ≤ Go.Lib.indexByte r.text 58
  dat : r.state = 3 → 0 < r.left ∧ r.left ≤ r.most - r.len
def dataF (r : PRd) (k : Nat) : PRd := ⟨r.most, r.len + k, if r.left - k = 0 then 4 else r.state, r.err, r.digits, r.left - k, r.over, r.extra, r.text, r.sum, r.trailers⟩
def byteF (r : PRd) (c : UInt8) : PRd := if r.state = 3 then dataF r 1 else stepF r c
def outF (r : PRd) (c : UInt8) : List UInt8 := if r.state = 3 then [c] else []
def feedF : PRd → List UInt8 → Nat × List UInt8 × PRd
  | r, [] => (0, [], r)
  | r, c :: l => if r.err ≠ none ∨ r.state = 8 then (0, [], r) else ((feedF (byteF r c) l).1 + 1, outF r c ++ (feedF (byteF r c) l).2.1, (feedF (byteF r c) l).2.2)
theorem nn_eq (x : Operand) : binX Tryd.prog .eql 24 x (.const .nilIface) .nilIface .nilIface = some (.bool true) := by cases x <;> kernel_rfl
theorem nn_ne (x : Operand) : binX Tryd.prog .neq 24 x (.const .nilIface) .nilIface .nilIface = some (.bool false) := by cases x <;> kernel_rfl
theorem ki24 : kIface Tryd.prog 24 = true := by kernel_rfl
theorem dataF_add (r : PRd) (i j : Nat) (h : r.left - i ≠ 0) : dataF (dataF r i) j = dataF r (i + j) := by
  simp only [dataF, if_neg h]
  congr 1
  · omega
  · simp only [Int.natCast_add, Int.sub_sub]
  · omega
theorem feed_data (r : PRd) (he : r.err = none) (hs : r.state = 3) : ∀ (ys zs : List UInt8), ys ≠ [] → (ys.length : Int) ≤ r.left → feedF r (ys ++ zs) = (ys.length + (feedF (dataF r ys.length) zs).1, ys ++ (feedF (dataF r ys.length) zs).2.1, (feedF (dataF r ys.length) zs).2.2)
  | [], _, h, _ => absurd rfl h
  | [c], zs, _, hl => by
    simp only [List.singleton_append, feedF, he, hs, byteF, outF, List.length_singleton]
    rw [if_neg (by simp)]
    simp only [if_true]
    rw [Nat.add_comm]
    rfl
  | c :: d :: ys, zs, _, hl => by
    have hl' : ((d :: ys).length : Int) ≤ (dataF r 1).left := by simp only [dataF, List.length_cons] at hl ⊢; omega
    have h1 : r.left - (1 : Nat) ≠ 0 := by simp only [List.length_cons] at hl; omega
    have ih := feed_data (dataF r 1) (by simpa [dataF] using he) (by simp only [dataF, if_neg h1]; exact hs) (d :: ys) zs (by simp) hl'
    rw [List.cons_append]
    conv => lhs; unfold feedF
    simp only [he, hs, byteF, outF, ne_eq, not_true_eq_false, false_or, if_true]
    rw [if_neg (by decide), ih, dataF_add r 1 _ h1, Nat.add_comm 1]
    simp only [List.length_cons, Prod.mk.injEq, List.cons_append, List.nil_append, and_true, true_and]
    first | omega | exact ⟨by omega, rfl⟩
theorem u64_range (n : Int) : 0 ≤ IntKind.u64.wrap n ∧ IntKind.u64.wrap n < 18446744073709551616 := by simp [IntKind.wrap, IntKind.bits, IntKind.signed]; omega
theorem sizeF_inv {r : PRd} {c : Int} (hi : RInv r) (he : r.err = none) (hs : r.state = 0) : RInv (sizeF r c) := by
  obtain ⟨h1, h2, h3, h4, h5, h6, h7, h8, h9, h10, h11⟩ := hi
  have h6' := h6.2.2.1 he
  have h60 := h6.2.2.2 he hs
  unfold sizeF
  split
  · rename_i hc
    have hw : IntKind.i64.wrap (r.digits + 1) = r.digits + 1 := Go.Proofs.YtdfgdpjlbcnkfaaDoorAbs.wp64 (by omega) (by omega)
    have hr := u64_range (BitVec.ofInt IntKind.u64.bits (IntKind.u64.wrap (r.left * 2 ^ (min (4 : Int).toNat IntKind.u64.bits))) ||| BitVec.ofInt IntKind.u64.bits (IntKind.u64.wrap (hexF c).1)).toNat
    exact ⟨h1, h2, h3, by simp only [hw]; omega, hr, h6, h7, h8, h9, h10, fun q => by simp only at q; omega⟩
  · split
    · exact ⟨h1, h2, h3, h4, h5, ⟨h6.1, h6.2.1, fun q => (by cases q), fun q => (by cases q)⟩, ⟨h7.1, h7.2.1, fun q => (by cases q)⟩, h8, ⟨h9.1, fun q => (by cases q)⟩, h10, h11⟩
    · split
      · exact ⟨h1, h2, by simp, h4, h5, ⟨h6.1, h6.2.1, h6.2.2.1, fun _ q => by simp at q⟩, h7, h8, h9, fun q => by simp at q, fun q => by simp at q⟩
      · split
        · have hw : IntKind.i64.wrap (r.extra + 1) = 1 := by rw [h60]; decide
          exact ⟨h1, h2, by simp, h4, h5, by simp only [hw]; exact ⟨by omega, by omega, fun _ => by omega, fun _ q => by simp at q⟩, h7, h8, h9, fun q => by simp at q, fun q => by simp at q⟩
        · exact ⟨h1, h2, h3, h4, h5, ⟨h6.1, h6.2.1, fun q => (by cases q), fun q => (by cases q)⟩, ⟨h7.1, h7.2.1, fun q => (by cases q)⟩, h8, ⟨h9.1, fun q => (by cases q)⟩, h10, h11⟩
theorem extF_inv {r : PRd} {c : Int} (hi : RInv r) (he : r.err = none) (hs : r.state = 1) : RInv (extF r c) := by
  obtain ⟨h1, h2, h3, h4, h5, h6, h7, h8, h9, h10, h11⟩ := hi
  have h6' := h6.2.2.1 he
  have hw : IntKind.i64.wrap (r.extra + 1) = r.extra + 1 := Go.Proofs.YtdfgdpjlbcnkfaaDoorAbs.wp64 (by omega) (by omega)
  unfold extF
  simp only [hw]
  split
  · exact ⟨h1, h2, by simp, h4, h5, ⟨h6.1, h6.2.1, h6.2.2.1, fun _ q => by simp at q⟩, h7, h8, h9, fun q => by simp at q, fun q => by simp at q⟩
  · split
    · exact ⟨h1, h2, h3, h4, h5, ⟨by simp only; omega, by simp only; omega, fun q => (by cases q), fun q => (by cases q)⟩, ⟨h7.1, h7.2.1, fun q => (by cases q)⟩, h8, ⟨h9.1, fun q => (by cases q)⟩, h10, h11⟩
    · rename_i hn
      simp only [Bool.or_eq_true, decide_eq_true_eq, not_or] at hn
      exact ⟨h1, h2, h3, h4, h5, ⟨by simp only; omega, by simp only; omega, fun _ => by simp only; omega, fun _ q => by simp only at q; omega⟩, h7, h8, h9, h10, h11⟩
theorem begF_inv {r : PRd} {c : Int} (hi : RInv r) (he : r.err = none) (hs : r.state = 2) : RInv (begF r c) := by
  obtain ⟨h1, h2, h3, h4, h5, h6, h7, h8, h9, h10, h11⟩ := hi
  have w1 : IntKind.i64.wrap (r.most - r.len) = r.most - r.len := Go.Proofs.YtdfgdpjlbcnkfaaDoorAbs.wp64 (by omega) (by omega)
  have w2 : IntKind.u64.wrap (r.most - r.len) = r.most - r.len := Go.Proofs.YtdfgdpjlbcnkfaaDoorAbs.wpu64 (by omega) (by omega)
  unfold begF
  rw [w1, w2]
  split
  · exact ⟨h1, h2, h3, h4, h5, ⟨h6.1, h6.2.1, fun q => (by cases q), fun q => (by cases q)⟩, ⟨h7.1, h7.2.1, fun q => (by cases q)⟩, h8, ⟨h9.1, fun q => (by cases q)⟩, h10, h11⟩
  · split
    · exact ⟨h1, h2, h3, h4, h5, ⟨h6.1, h6.2.1, fun q => (by cases q), fun q => (by cases q)⟩, ⟨h7.1, h7.2.1, fun q => (by cases q)⟩, h8, ⟨h9.1, fun q => (by cases q)⟩, h10, h11⟩
    · rename_i hn
      simp only [Bool.or_eq_true, decide_eq_true_eq, not_or] at hn
      split
      · exact ⟨h1, h2, by simp, h4, h5, ⟨h6.1, h6.2.1, h6.2.2.1, fun _ q => by simp at q⟩, h7, h8, h9, fun q => by simp at q, fun q => by simp at q⟩
      · exact ⟨h1, h2, by simp, h4, h5, ⟨h6.1, h6.2.1, h6.2.2.1, fun _ q => by simp at q⟩, h7, h8, h9, fun q => by simp at q, fun _ => by simp only; omega⟩
theorem mustF_inv {r : PRd} {c w n : Int} (hi : RInv r) (hn : n = 5) (he : r.err = none) (hs : r.state ≠ 3) : RInv (mustF r c w n) := by
  obtain ⟨h1, h2, h3, h4, h5, h6, h7, h8, h9, h10, h11⟩ := hi
  subst hn
  unfold mustF
  split
  · exact ⟨h1, h2, by simp, h4, h5, ⟨h6.1, h6.2.1, h6.2.2.1, fun _ q => by simp at q⟩, h7, h8, h9, fun q => by simp at q, fun q => by simp at q⟩
  · exact ⟨h1, h2, h3, h4, h5, ⟨h6.1, h6.2.1, fun q => (by cases q), fun q => (by cases q)⟩, ⟨h7.1, h7.2.1, fun q => (by cases q)⟩, h8, ⟨h9.1, fun q => (by cases q)⟩, h10, h11⟩
theorem reset_inv {r : PRd} {c w : Int} (hi : RInv r) (he : r.err = none) (hs : r.state = 5) : RInv (mustF r c w 0).reset := by
  obtain ⟨h1, h2, h3, h4, h5, h6, h7, h8, h9, h10, h11⟩ := hi
  unfold mustF
  split
  · exact ⟨h1, h2, by simp [CR.reset], by simp [CR.reset], by simp [CR.reset], by simp [CR.reset], h7, h8, h9, fun q => by simp [CR.reset] at q, fun q => by simp [CR.reset] at q⟩
  · exact ⟨h1, h2, h3, by simp [CR.reset], by simp [CR.reset], by simp [CR.reset], ⟨h7.1, h7.2.1, fun q => by simp [CR.reset] at q⟩, h8, ⟨h9.1, fun q => by simp [CR.reset] at q⟩, h10, fun q => by simp [CR.reset] at q; omega⟩
theorem idx_append (l : List UInt8) (c x : UInt8) (h : 0 ≤ Go.Lib.indexByte l x) : Go.Lib.indexByte (l ++ [c]) x = Go.Lib.indexByte l x := by
  induction l with
  | nil => simp [Go.Lib.indexByte] at h
  | cons b l ih =>
    simp only [List.cons_append]
    unfold Go.Lib.indexByte at h ⊢
    by_cases hb : (b == x) = true
    · simp [hb]
    · simp only [hb] at h ⊢
      by_cases h2 : (Go.Lib.indexByte l x == -1) = true
      · simp [h2] at h
      · have := (idx_lt l x).2
        have h2' : Go.Lib.indexByte l x ≠ -1 := by simpa using h2
        rw [ih (by omega)]
theorem endsF_inv {r : PRd} {c : UInt8} (hi : RInv r) (he : r.err = none) (hs : r.state = 7) : RInv (endsF r c) := by
  obtain ⟨h1, h2, h3, h4, h5, h6, h7, h8, h9, h10, h11⟩ := hi
  have h7' := h7.2.2 he
  have h6' := h6.2.2.1 he
  have hw : IntKind.i64.wrap (r.sum + 1) = r.sum + 1 := Go.Proofs.YtdfgdpjlbcnkfaaDoorAbs.wp64 (by omega) (by omega)
  unfold endsF
  simp only [hw]
  have hsum : ∀ b : Bool, 0 ≤ (if r.text.length = 0 then r.sum else r.sum + 1) ∧ (if r.text.length = 0 then r.sum else r.sum + 1) ≤ 8193 ∧ (r.text.length : Int) ≤ (if r.text.length = 0 then r.sum else r.sum + 1) := by intro _; split <;> omega
  obtain ⟨s1, s2, s3⟩ := hsum true
  clear hsum
  generalize (if r.text.length = 0 then r.sum else r.sum + 1) = s at *
  split
  · exact ⟨h1, h2, h3, h4, h5, ⟨h6.1, h6.2.1, fun q => (by cases q), fun q => (by cases q)⟩, ⟨s1, s2, fun q => (by cases q)⟩, s3, ⟨h9.1, fun q => (by cases q)⟩, h10, h11⟩
  · rename_i hle
    split
    · exact ⟨h1, h2, h3, h4, h5, ⟨h6.1, h6.2.1, fun q => (by cases q), fun q => (by cases q)⟩, ⟨s1, s2, fun q => (by cases q)⟩, s3, ⟨h9.1, fun q => (by cases q)⟩, h10, h11⟩
    · split
      · exact ⟨h1, h2, by simp, h4, h5, ⟨h6.1, h6.2.1, h6.2.2.1, fun _ q => by simp at q⟩, ⟨s1, s2, fun _ => by simp only; omega⟩, s3, h9, fun q => by simp at q, fun q => by simp at q⟩
      · rename_i hne
        have hne' : r.text ≠ [] := fun e => hne (by rw [e]; rfl)
        have := h9.2 he hne'
        exact ⟨h1, h2, by simp, h4, h5, ⟨h6.1, h6.2.1, h6.2.2.1, fun _ q => by simp at q⟩, ⟨s1, s2, fun _ => by simp only; omega⟩, by simp only [List.length_nil]; omega, ⟨by simp; omega, fun _ q => absurd rfl q⟩, fun q => by simp at q, fun q => by simp at q⟩
theorem trailerF_inv {r : PRd} {c : UInt8} (hi : RInv r) (he : r.err = none) (hs : r.state ≠ 3) (h8s : r.state ≠ 0) : RInv (trailerF r c) := by
  unfold trailerF
  split
  · exact endsF_inv hi he (by assumption)
  obtain ⟨h1, h2, h3, h4, h5, h6, h7, h8, h9, h10, h11⟩ := hi
  have h7' := h7.2.2 he
  have h6' := h6.2.2.1 he
  have hw : IntKind.i64.wrap (r.sum + 1) = r.sum + 1 := Go.Proofs.YtdfgdpjlbcnkfaaDoorAbs.wp64 (by omega) (by omega)
  simp only [hw]
  split
  · rename_i hc
    have : r.text = [] := List.length_eq_zero_iff.1 hc.1
    exact ⟨h1, h2, by simp, h4, h5, ⟨h6.1, h6.2.1, h6.2.2.1, fun _ q => by simp at q⟩, h7, h8, h9, fun _ q => absurd this q, fun q => by simp at q⟩
  split
  · exact ⟨h1, h2, h3, h4, h5, ⟨h6.1, h6.2.1, fun q => (by cases q), fun q => (by cases q)⟩, ⟨by simp only; omega, by simp only; omega, fun q => (by cases q)⟩, by simp only; omega, ⟨h9.1, fun q => (by cases q)⟩, h10, h11⟩
  split
  · exact ⟨h1, h2, h3, h4, h5, ⟨h6.1, h6.2.1, fun q => (by cases q), fun q => (by cases q)⟩, ⟨by simp only; omega, by simp only; omega, fun q => (by cases q)⟩, by simp only; omega, ⟨h9.1, fun q => (by cases q)⟩, h10, h11⟩
  rename_i hg1 hg2
  split
  · rename_i hc
    exact ⟨h1, h2, by simp, h4, h5, ⟨h6.1, h6.2.1, h6.2.2.1, fun _ q => by simp at q⟩, ⟨by simp only; omega, by simp only; omega, fun _ => by simp only; omega⟩, by simp only; omega, h9, fun _ _ => by simp only; omega, fun q => by simp at q⟩
  split
  · refine ⟨h1, h2, h3, h4, h5, ⟨h6.1, h6.2.1, h6.2.2.1, fun _ q => absurd q h8s⟩, ⟨by simp only; omega, by simp only; omega, fun _ => by simp only; omega⟩, by simp; omega, ⟨h9.1, fun _ _ => ?_⟩, fun q => by simp only at q; omega, fun q => absurd q hs⟩
    by_cases e0 : r.text.length = 0
    · have := h9.1
      simp only
      omega
    · exact h9.2 he fun e => e0 (by rw [e]; rfl)
  · exact ⟨h1, h2, h3, h4, h5, ⟨h6.1, h6.2.1, fun q => (by cases q), fun q => (by cases q)⟩, ⟨by simp only; omega, by simp only; omega, fun q => (by cases q)⟩, by simp only; omega, ⟨h9.1, fun q => (by cases q)⟩, h10, h11⟩
theorem dataF_inv {r : PRd} {k : Nat} (hi : RInv r) (he : r.err = none) (hs : r.state = 3) (hk : (k : Int) ≤ r.left) : RInv (dataF r k) := by
  obtain ⟨h1, h2, h3, h4, h5, h6, h7, h8, h9, h10, h11⟩ := hi
  obtain ⟨d1, d2⟩ := h11 hs
  unfold dataF
  split
  · exact ⟨h1, by simp only; omega, by simp, h4, by simp only; omega, ⟨h6.1, h6.2.1, h6.2.2.1, fun _ q => by simp at q⟩, h7, h8, h9, fun q => by simp at q, fun q => by simp at q⟩
  · exact ⟨h1, by simp only; omega, h3, h4, by simp only; omega, h6, h7, h8, h9, h10, fun _ => by simp only; omega⟩
theorem stepF_inv {r : PRd} {c : UInt8} (hi : RInv r) (he : r.err = none) (hs : r.state ≠ 3) : RInv (stepF r c) := by
  unfold stepF
  split
  · exact sizeF_inv hi he (by assumption)
  split
  · exact extF_inv hi he (by assumption)
  split
  · exact begF_inv hi he (by assumption)
  split
  · exact mustF_inv hi rfl he hs
  split
  · exact reset_inv hi he (by assumption)
  · exact trailerF_inv hi he hs (by assumption)
end
end Go.Proofs.YtdfgdpjlbcnkfaaDoor.Q
