/- What the law ChunkBack needs, part 3: the runner over a plain memory, words, the functions that it reaches, each by its own contract; for the inputs that each theorem names. -/
import Derived.Test.YtdfgdpjlbcnkfaaDoorChunkBackP2
import Derived.Laws.StructEq
import Derived.Shelf.Strings.Trim
import Derived.Shelf.Small.Utf8
import Derived.Shelf.Small.Strs
import Derived.Shelf.Strconv.Itoa0
import Derived.Shelf.Strconv.Itoa1
import Derived.Shelf.LaysM
import Derived.Shelf.Strconv.Itoa2
import Derived.Shelf.Strings.Search1
import Derived.Shelf.Unicode.Decode
import Derived.Shelf.Strings.Runes
import Derived.Shelf.Strings.AsciiSet
import Derived.Shelf.Unicode.DecodeSlow
import Derived.Shelf.Unicode.DecodeAny
import Derived.Shelf.Unicode.DecodeLast
import Derived.Shelf.Bytes.SlIndexSmall
import Derived.Shelf.Bytes.SlIndexAt
import Derived.Shelf.Bytes.SlSearch0
import Derived.Shelf.Bytes.SlSearch1
import Derived.Shelf.Bytes.SlSearch2
import Derived.Shelf.Bytes.SlIndexWhole
import Derived.Ground.SlbCloneProg
import Derived.Shelf.Bytes.SlClone
import Derived.Ground.SlbtProg
import Derived.Shelf.Bytes.SlCut
import Derived.Shelf.Bytes.Small
import Derived.Shelf.Bytes.IndexByte
import Derived.Test.YtdfgdpjlbcnkfaaDoorProg
import Derived.Shelf.Strings.SlTrimAscii
import Derived.Test.YtdfgdpjlbcnkfaaDoorRows
namespace Go.Proofs.YtdfgdpjlbcnkfaaDoor.Q
open Go Go.Proofs.YtdfgdpjlbcnkfaaDoorAbs Go.Proofs
set_option linter.unusedVariables false
set_option linter.unusedSimpArgs false
set_option maxRecDepth 100000
set_option maxHeartbeats 4000000
attribute [local irreducible] Go.Proofs.YtdfgdpjlbcnkfaaDoorAbs.O Go.Proofs.YtdfgdpjlbcnkfaaDoorAbs.W Go.Proofs.YtdfgdpjlbcnkfaaDoorAbs.C Go.Proofs.YtdfgdpjlbcnkfaaDoorAbs.OK Go.Proofs.YtdfgdpjlbcnkfaaDoorAbs.OKF Go.Proofs.YtdfgdpjlbcnkfaaDoorAbs.OKT Go.Proofs.YtdfgdpjlbcnkfaaDoorAbs.then_ Go.Proofs.YtdfgdpjlbcnkfaaDoorAbs.inBlock_ Go.Proofs.YtdfgdpjlbcnkfaaDoorAbs.bodyQ Go.Proofs.YtdfgdpjlbcnkfaaDoorAbs.Cont
def Sl (S : St) (v : Value) (xs : List UInt8) : Prop :=
  ∃ a c, v = .slice a xs.length c ∧ (a = none → c = 0) ∧ (xs ≠ [] → ∃ b o L cs el own m, a = some ⟨b, o, some L⟩ ∧ (c = UNK + 1 ∨ xs.length ≤ c ∧ c < UNK) ∧ S.get b = some ⟨cs, el, own, m⟩ ∧ (own = true → m ≤ L ∧ o + xs.length ≤ L) ∧ (cs.drop o).take xs.length = u8v xs ∧ b < S.next)
def Apart (v : Value) (b : Nat) (tv lv : Value) : Prop := ∀ i, blkOf v = some i → i ≠ b ∧ blkOf tv ≠ some i ∧ blkOf lv ≠ some i
section
variable {I : Prims} {S : St} {Q : Value → St → Prop}
theorem Apart.mv {S S' : St} {v tv lv tv' lv' : Value} {b : Nat} (h : Apart v b tv lv) (k : Mv S S' b tv lv tv' lv') (hv : ∀ i, blkOf v = some i → i < S.next) : Apart v b tv' lv' := fun i hi => by
  obtain ⟨h1, h2, h3⟩ := h i hi
  have := hv i hi
  refine ⟨h1, fun e => ?_, fun e => ?_⟩
  · rcases k.t i e with q | q
    · exact h2 q
    · omega
  · rcases k.l i e with q | q
    · exact h3 q
    · omega
theorem own_mv {el sz n b : Nat} {S S' : St} {v tv lv tv' lv' : Value} {xs : List Value} (h : Own el sz S v n xs) (ha : Apart v b tv lv) (k : Mv S S' b tv lv tv' lv') : Own el sz S' v n xs := by
  refine ⟨h.1, h.2.1, ?_⟩
  rcases h.2.2 with q | ⟨b', m, rfl, h1, h2, h3, h4⟩
  · exact .inl q
  · obtain ⟨a1, a2, a3⟩ := ha b' rfl
    exact .inr ⟨b', m, rfl, (k.keep b' h3 a1 a2 a3).trans h1, h2, Nat.lt_of_lt_of_le h3 k.next, h4⟩
theorem sl_mv {b : Nat} {S S' : St} {v tv lv tv' lv' : Value} {xs : List UInt8} (h : Sl S v xs) (ha : Apart v b tv lv) (k : Mv S S' b tv lv tv' lv') : Sl S' v xs := by
  obtain ⟨a, c, rfl, h0, h1⟩ := h
  refine ⟨a, c, rfl, h0, fun hne => ?_⟩
  obtain ⟨b', o, L, cs, el, own, m, rfl, h2, h3, h4, h5, h6⟩ := h1 hne
  obtain ⟨a1, a2, a3⟩ := ha b' rfl
  exact ⟨b', o, L, cs, el, own, m, rfl, h2, (k.keep b' h6 a1 a2 a3).trans h3, h4, h5, Nat.lt_of_lt_of_le h6 k.next⟩
theorem sl_kept {S S' : St} {v : Value} {o' : Option Nat} {xs : List UInt8} (h : Sl S v xs) (k : Kept S S' o') (ho : ∀ i, o' = some i → blkOf v ≠ some i) : Sl S' v xs := by
  obtain ⟨a, c, rfl, h0, h1⟩ := h
  refine ⟨a, c, rfl, h0, fun hne => ?_⟩
  obtain ⟨b', o, L, cs, el, own, m, rfl, h2, h3, h4, h5, h6⟩ := h1 hne
  exact ⟨b', o, L, cs, el, own, m, rfl, h2, (k.2 b' h6 (fun e => ho b' e rfl)).trans h3, h4, h5, Nat.lt_of_lt_of_le h6 k.1⟩
theorem Rd.kept {S S' : St} {b m : Nat} {r : PRd} {tv lv : Value} {o : Option Nat} (h : Rd S b r tv lv m) (k : Kept S S' o) (ho : ∀ i, o = some i → i ≠ b ∧ blkOf tv ≠ some i ∧ blkOf lv ≠ some i) : Rd S' b r tv lv m :=
  ⟨(k.2 b h.hn (fun e => (ho b e).1 rfl)).trans h.cell, h.hm, Nat.lt_of_lt_of_le h.hn k.1, h.text.kept k (by
      cases o with
      | none => exact .inl rfl
      | some i => exact .inr (Ne.symm (ho i rfl).2.1)), h.trl.kept k (by
      cases o with
      | none => exact .inl rfl
      | some i => exact .inr (Ne.symm (ho i rfl).2.2)), h.n1, h.n2, h.n3⟩
theorem Mv.kept {S S1 S2 : St} {b : Nat} {tv lv tv1 lv1 : Value} {o : Option Nat} (h : Mv S S1 b tv lv tv1 lv1) (k : Kept S1 S2 o) (ho : ∀ i, o = some i → S.next ≤ i) : Mv S S2 b tv lv tv1 lv1 :=
  ⟨Nat.le_trans h.next k.1, fun i h1 h2 h3 h4 => (k.2 i (Nat.lt_of_lt_of_le h1 h.next) (fun e => by have := ho i e; omega)).trans (h.keep i h1 h2 h3 h4), h.t, h.l⟩
structure RInv (r : PRd) : Prop where
  most : 0 ≤ r.most ∧ r.most ≤ 1099511627776
  len : 0 ≤ r.len ∧ r.len ≤ r.most
  st : 0 ≤ r.state ∧ r.state ≤ 8
  dig : 0 ≤ r.digits ∧ r.digits ≤ 16
  left : 0 ≤ r.left ∧ r.left < 18446744073709551616
  extra : 0 ≤ r.extra ∧ r.extra ≤ 257 ∧ (r.err = none → r.extra ≤ 256) ∧ (r.err = none → r.state = 0 → r.extra = 0)
  sum : 0 ≤ r.sum ∧ r.sum ≤ 8193 ∧ (r.err = none → r.sum ≤ 8192)
  text : (r.text.length : Int) ≤ r.sum
  trl : r.trailers.length ≤ 64 ∧ (r.err = none → r.text ≠ [] → r.trailers.length < 64)
  col : r.state = 7 → r.text ≠ [] → 0 ≤ Go.Lib.indexByte r.text 58
  dat : r.state = 3 → 0 < r.left ∧ r.left ≤ r.most - r.len
def dataF (r : PRd) (k : Nat) : PRd := ⟨r.most, r.len + k, if r.left - k = 0 then 4 else r.state, r.err, r.digits, r.left - k, r.over, r.extra, r.text, r.sum, r.trailers⟩
def byteF (r : PRd) (c : UInt8) : PRd := if r.state = 3 then dataF r 1 else stepF r c
def outF (r : PRd) (c : UInt8) : List UInt8 := if r.state = 3 then [c] else []
def feedF : PRd → List UInt8 → Nat × List UInt8 × PRd
  | r, [] => (0, [], r)
  | r, c :: l => if r.err ≠ none ∨ r.state = 8 then (0, [], r) else ((feedF (byteF r c) l).1 + 1, outF r c ++ (feedF (byteF r c) l).2.1, (feedF (byteF r c) l).2.2)
theorem nn_eq (x : Operand) : binX Tryd.prog .eql 24 x (.const .nilIface) .nilIface .nilIface = some (.bool true) := by cases x <;> kernel_rfl
theorem nn_ne (x : Operand) : binX Tryd.prog .neq 24 x (.const .nilIface) .nilIface .nilIface = some (.bool false) := by cases x <;> kernel_rfl
theorem ki24 : kIface Tryd.prog 24 = true := by kernel_rfl
theorem dataF_add (r : PRd) (i j : Nat) (h : r.left - i ≠ 0) : dataF (dataF r i) j = dataF r (i + j) := by
  simp only [dataF, if_neg h]
  congr 1
  · omega
  · simp only [Int.natCast_add, Int.sub_sub]
  · omega
theorem feed_data (r : PRd) (he : r.err = none) (hs : r.state = 3) : ∀ (ys zs : List UInt8), ys ≠ [] → (ys.length : Int) ≤ r.left → feedF r (ys ++ zs) = (ys.length + (feedF (dataF r ys.length) zs).1, ys ++ (feedF (dataF r ys.length) zs).2.1, (feedF (dataF r ys.length) zs).2.2)
  | [], _, h, _ => absurd rfl h
  | [c], zs, _, hl => by
    simp only [List.singleton_append, feedF, he, hs, byteF, outF, List.length_singleton]
    rw [if_neg (by simp)]
    simp only [if_true]
    rw [Nat.add_comm]
    rfl
  | c :: d :: ys, zs, _, hl => by
    have hl' : ((d :: ys).length : Int) ≤ (dataF r 1).left := by simp only [dataF, List.length_cons] at hl ⊢; omega
    have h1 : r.left - (1 : Nat) ≠ 0 := by simp only [List.length_cons] at hl; omega
    have ih := feed_data (dataF r 1) (by simpa [dataF] using he) (by simp only [dataF, if_neg h1]; exact hs) (d :: ys) zs (by simp) hl'
    rw [List.cons_append]
    conv => lhs; unfold feedF
    simp only [he, hs, byteF, outF, ne_eq, not_true_eq_false, false_or, if_true]
    rw [if_neg (by decide), ih, dataF_add r 1 _ h1, Nat.add_comm 1]
    simp only [List.length_cons, Prod.mk.injEq, List.cons_append, List.nil_append, and_true, true_and]
    first | omega | exact ⟨by omega, rfl⟩
theorem u64_range (n : Int) : 0 ≤ IntKind.u64.wrap n ∧ IntKind.u64.wrap n < 18446744073709551616 := by simp [IntKind.wrap, IntKind.bits, IntKind.signed]; omega
theorem sizeF_inv {r : PRd} {c : Int} (hi : RInv r) (he : r.err = none) (hs : r.state = 0) : RInv (sizeF r c) := by
  obtain ⟨h1, h2, h3, h4, h5, h6, h7, h8, h9, h10, h11⟩ := hi
  have h6' := h6.2.2.1 he
  have h60 := h6.2.2.2 he hs
  unfold sizeF
  split
  · rename_i hc
    have hw : IntKind.i64.wrap (r.digits + 1) = r.digits + 1 := Go.Proofs.YtdfgdpjlbcnkfaaDoorAbs.wp64 (by omega) (by omega)
    have hr := u64_range (BitVec.ofInt IntKind.u64.bits (IntKind.u64.wrap (r.left * 2 ^ (min (4 : Int).toNat IntKind.u64.bits))) ||| BitVec.ofInt IntKind.u64.bits (IntKind.u64.wrap (hexF c).1)).toNat
    exact ⟨h1, h2, h3, by simp only [hw]; omega, hr, h6, h7, h8, h9, h10, fun q => by simp only at q; omega⟩
  · split
    · exact ⟨h1, h2, h3, h4, h5, ⟨h6.1, h6.2.1, fun q => (by cases q), fun q => (by cases q)⟩, ⟨h7.1, h7.2.1, fun q => (by cases q)⟩, h8, ⟨h9.1, fun q => (by cases q)⟩, h10, h11⟩
    · split
      · exact ⟨h1, h2, by simp, h4, h5, ⟨h6.1, h6.2.1, h6.2.2.1, fun _ q => by simp at q⟩, h7, h8, h9, fun q => by simp at q, fun q => by simp at q⟩
      · split
        · have hw : IntKind.i64.wrap (r.extra + 1) = 1 := by rw [h60]; decide
          exact ⟨h1, h2, by simp, h4, h5, by simp only [hw]; exact ⟨by omega, by omega, fun _ => by omega, fun _ q => by simp at q⟩, h7, h8, h9, fun q => by simp at q, fun q => by simp at q⟩
        · exact ⟨h1, h2, h3, h4, h5, ⟨h6.1, h6.2.1, fun q => (by cases q), fun q => (by cases q)⟩, ⟨h7.1, h7.2.1, fun q => (by cases q)⟩, h8, ⟨h9.1, fun q => (by cases q)⟩, h10, h11⟩
theorem extF_inv {r : PRd} {c : Int} (hi : RInv r) (he : r.err = none) (hs : r.state = 1) : RInv (extF r c) := by
  obtain ⟨h1, h2, h3, h4, h5, h6, h7, h8, h9, h10, h11⟩ := hi
  have h6' := h6.2.2.1 he
  have hw : IntKind.i64.wrap (r.extra + 1) = r.extra + 1 := Go.Proofs.YtdfgdpjlbcnkfaaDoorAbs.wp64 (by omega) (by omega)
  unfold extF
  simp only [hw]
  split
  · exact ⟨h1, h2, by simp, h4, h5, ⟨h6.1, h6.2.1, h6.2.2.1, fun _ q => by simp at q⟩, h7, h8, h9, fun q => by simp at q, fun q => by simp at q⟩
  · split
    · exact ⟨h1, h2, h3, h4, h5, ⟨by simp only; omega, by simp only; omega, fun q => (by cases q), fun q => (by cases q)⟩, ⟨h7.1, h7.2.1, fun q => (by cases q)⟩, h8, ⟨h9.1, fun q => (by cases q)⟩, h10, h11⟩
    · rename_i hn
      simp only [Bool.or_eq_true, decide_eq_true_eq, not_or] at hn
      exact ⟨h1, h2, h3, h4, h5, ⟨by simp only; omega, by simp only; omega, fun _ => by simp only; omega, fun _ q => by simp only at q; omega⟩, h7, h8, h9, h10, h11⟩
theorem begF_inv {r : PRd} {c : Int} (hi : RInv r) (he : r.err = none) (hs : r.state = 2) : RInv (begF r c) := by
  obtain ⟨h1, h2, h3, h4, h5, h6, h7, h8, h9, h10, h11⟩ := hi
  have w1 : IntKind.i64.wrap (r.most - r.len) = r.most - r.len := Go.Proofs.YtdfgdpjlbcnkfaaDoorAbs.wp64 (by omega) (by omega)
  have w2 : IntKind.u64.wrap (r.most - r.len) = r.most - r.len := Go.Proofs.YtdfgdpjlbcnkfaaDoorAbs.wpu64 (by omega) (by omega)
  unfold begF
  rw [w1, w2]
  split
  · exact ⟨h1, h2, h3, h4, h5, ⟨h6.1, h6.2.1, fun q => (by cases q), fun q => (by cases q)⟩, ⟨h7.1, h7.2.1, fun q => (by cases q)⟩, h8, ⟨h9.1, fun q => (by cases q)⟩, h10, h11⟩
  · split
    · exact ⟨h1, h2, h3, h4, h5, ⟨h6.1, h6.2.1, fun q => (by cases q), fun q => (by cases q)⟩, ⟨h7.1, h7.2.1, fun q => (by cases q)⟩, h8, ⟨h9.1, fun q => (by cases q)⟩, h10, h11⟩
    · rename_i hn
      simp only [Bool.or_eq_true, decide_eq_true_eq, not_or] at hn
      split
      · exact ⟨h1, h2, by simp, h4, h5, ⟨h6.1, h6.2.1, h6.2.2.1, fun _ q => by simp at q⟩, h7, h8, h9, fun q => by simp at q, fun q => by simp at q⟩
      · exact ⟨h1, h2, by simp, h4, h5, ⟨h6.1, h6.2.1, h6.2.2.1, fun _ q => by simp at q⟩, h7, h8, h9, fun q => by simp at q, fun _ => by simp only; omega⟩
theorem mustF_inv {r : PRd} {c w n : Int} (hi : RInv r) (hn : n = 5) (he : r.err = none) (hs : r.state ≠ 3) : RInv (mustF r c w n) := by
  obtain ⟨h1, h2, h3, h4, h5, h6, h7, h8, h9, h10, h11⟩ := hi
  subst hn
  unfold mustF
  split
  · exact ⟨h1, h2, by simp, h4, h5, ⟨h6.1, h6.2.1, h6.2.2.1, fun _ q => by simp at q⟩, h7, h8, h9, fun q => by simp at q, fun q => by simp at q⟩
  · exact ⟨h1, h2, h3, h4, h5, ⟨h6.1, h6.2.1, fun q => (by cases q), fun q => (by cases q)⟩, ⟨h7.1, h7.2.1, fun q => (by cases q)⟩, h8, ⟨h9.1, fun q => (by cases q)⟩, h10, h11⟩
theorem reset_inv {r : PRd} {c w : Int} (hi : RInv r) (he : r.err = none) (hs : r.state = 5) : RInv (mustF r c w 0).reset := by
  obtain ⟨h1, h2, h3, h4, h5, h6, h7, h8, h9, h10, h11⟩ := hi
  unfold mustF
  split
  · exact ⟨h1, h2, by simp [CR.reset], by simp [CR.reset], by simp [CR.reset], by simp [CR.reset], h7, h8, h9, fun q => by simp [CR.reset] at q, fun q => by simp [CR.reset] at q⟩
  · exact ⟨h1, h2, h3, by simp [CR.reset], by simp [CR.reset], by simp [CR.reset], ⟨h7.1, h7.2.1, fun q => by simp [CR.reset] at q⟩, h8, ⟨h9.1, fun q => by simp [CR.reset] at q⟩, h10, fun q => by simp [CR.reset] at q; omega⟩
theorem idx_append (l : List UInt8) (c x : UInt8) (h : 0 ≤ Go.Lib.indexByte l x) : Go.Lib.indexByte (l ++ [c]) x = Go.Lib.indexByte l x := by
  induction l with
  | nil => simp [Go.Lib.indexByte] at h
  | cons b l ih =>
    simp only [List.cons_append]
    unfold Go.Lib.indexByte at h ⊢
    by_cases hb : (b == x) = true
    · simp [hb]
    · simp only [hb] at h ⊢
      by_cases h2 : (Go.Lib.indexByte l x == -1) = true
      · simp [h2] at h
      · have := (idx_lt l x).2
        have h2' : Go.Lib.indexByte l x ≠ -1 := by simpa using h2
        rw [ih (by omega)]
theorem endsF_inv {r : PRd} {c : UInt8} (hi : RInv r) (he : r.err = none) (hs : r.state = 7) : RInv (endsF r c) := by
  obtain ⟨h1, h2, h3, h4, h5, h6, h7, h8, h9, h10, h11⟩ := hi
  have h7' := h7.2.2 he
  have h6' := h6.2.2.1 he
  have hw : IntKind.i64.wrap (r.sum + 1) = r.sum + 1 := Go.Proofs.YtdfgdpjlbcnkfaaDoorAbs.wp64 (by omega) (by omega)
  unfold endsF
  simp only [hw]
  have hsum : ∀ b : Bool, 0 ≤ (if r.text.length = 0 then r.sum else r.sum + 1) ∧ (if r.text.length = 0 then r.sum else r.sum + 1) ≤ 8193 ∧ (r.text.length : Int) ≤ (if r.text.length = 0 then r.sum else r.sum + 1) := by intro _; split <;> omega
  obtain ⟨s1, s2, s3⟩ := hsum true
  clear hsum
  generalize (if r.text.length = 0 then r.sum else r.sum + 1) = s at *
  split
  · exact ⟨h1, h2, h3, h4, h5, ⟨h6.1, h6.2.1, fun q => (by cases q), fun q => (by cases q)⟩, ⟨s1, s2, fun q => (by cases q)⟩, s3, ⟨h9.1, fun q => (by cases q)⟩, h10, h11⟩
  · rename_i hle
    split
    · exact ⟨h1, h2, h3, h4, h5, ⟨h6.1, h6.2.1, fun q => (by cases q), fun q => (by cases q)⟩, ⟨s1, s2, fun q => (by cases q)⟩, s3, ⟨h9.1, fun q => (by cases q)⟩, h10, h11⟩
    · split
      · exact ⟨h1, h2, by simp, h4, h5, ⟨h6.1, h6.2.1, h6.2.2.1, fun _ q => by simp at q⟩, ⟨s1, s2, fun _ => by simp only; omega⟩, s3, h9, fun q => by simp at q, fun q => by simp at q⟩
      · rename_i hne
        have hne' : r.text ≠ [] := fun e => hne (by rw [e]; rfl)
        have := h9.2 he hne'
        exact ⟨h1, h2, by simp, h4, h5, ⟨h6.1, h6.2.1, h6.2.2.1, fun _ q => by simp at q⟩, ⟨s1, s2, fun _ => by simp only; omega⟩, by simp only [List.length_nil]; omega, ⟨by simp; omega, fun _ q => absurd rfl q⟩, fun q => by simp at q, fun q => by simp at q⟩
theorem trailerF_inv {r : PRd} {c : UInt8} (hi : RInv r) (he : r.err = none) (hs : r.state ≠ 3) (h8s : r.state ≠ 0) : RInv (trailerF r c) := by
  unfold trailerF
  split
  · exact endsF_inv hi he (by assumption)
  obtain ⟨h1, h2, h3, h4, h5, h6, h7, h8, h9, h10, h11⟩ := hi
  have h7' := h7.2.2 he
  have h6' := h6.2.2.1 he
  have hw : IntKind.i64.wrap (r.sum + 1) = r.sum + 1 := Go.Proofs.YtdfgdpjlbcnkfaaDoorAbs.wp64 (by omega) (by omega)
  simp only [hw]
  split
  · rename_i hc
    have : r.text = [] := List.length_eq_zero_iff.1 hc.1
    exact ⟨h1, h2, by simp, h4, h5, ⟨h6.1, h6.2.1, h6.2.2.1, fun _ q => by simp at q⟩, h7, h8, h9, fun _ q => absurd this q, fun q => by simp at q⟩
  split
  · exact ⟨h1, h2, h3, h4, h5, ⟨h6.1, h6.2.1, fun q => (by cases q), fun q => (by cases q)⟩, ⟨by simp only; omega, by simp only; omega, fun q => (by cases q)⟩, by simp only; omega, ⟨h9.1, fun q => (by cases q)⟩, h10, h11⟩
  split
  · exact ⟨h1, h2, h3, h4, h5, ⟨h6.1, h6.2.1, fun q => (by cases q), fun q => (by cases q)⟩, ⟨by simp only; omega, by simp only; omega, fun q => (by cases q)⟩, by simp only; omega, ⟨h9.1, fun q => (by cases q)⟩, h10, h11⟩
  rename_i hg1 hg2
  split
  · rename_i hc
    exact ⟨h1, h2, by simp, h4, h5, ⟨h6.1, h6.2.1, h6.2.2.1, fun _ q => by simp at q⟩, ⟨by simp only; omega, by simp only; omega, fun _ => by simp only; omega⟩, by simp only; omega, h9, fun _ _ => by simp only; omega, fun q => by simp at q⟩
  split
  · refine ⟨h1, h2, h3, h4, h5, ⟨h6.1, h6.2.1, h6.2.2.1, fun _ q => absurd q h8s⟩, ⟨by simp only; omega, by simp only; omega, fun _ => by simp only; omega⟩, by simp; omega, ⟨h9.1, fun _ _ => ?_⟩, fun q => by simp only at q; omega, fun q => absurd q hs⟩
    by_cases e0 : r.text.length = 0
    · have := h9.1
      simp only
      omega
    · exact h9.2 he fun e => e0 (by rw [e]; rfl)
  · exact ⟨h1, h2, h3, h4, h5, ⟨h6.1, h6.2.1, fun q => (by cases q), fun q => (by cases q)⟩, ⟨by simp only; omega, by simp only; omega, fun q => (by cases q)⟩, by simp only; omega, ⟨h9.1, fun q => (by cases q)⟩, h10, h11⟩
theorem dataF_inv {r : PRd} {k : Nat} (hi : RInv r) (he : r.err = none) (hs : r.state = 3) (hk : (k : Int) ≤ r.left) : RInv (dataF r k) := by
  obtain ⟨h1, h2, h3, h4, h5, h6, h7, h8, h9, h10, h11⟩ := hi
  obtain ⟨d1, d2⟩ := h11 hs
  unfold dataF
  split
  · exact ⟨h1, by simp only; omega, by simp, h4, by simp only; omega, ⟨h6.1, h6.2.1, h6.2.2.1, fun _ q => by simp at q⟩, h7, h8, h9, fun q => by simp at q, fun q => by simp at q⟩
  · exact ⟨h1, by simp only; omega, h3, h4, by simp only; omega, h6, h7, h8, h9, h10, fun _ => by simp only; omega⟩
theorem stepF_inv {r : PRd} {c : UInt8} (hi : RInv r) (he : r.err = none) (hs : r.state ≠ 3) : RInv (stepF r c) := by
  unfold stepF
  split
  · exact sizeF_inv hi he (by assumption)
  split
  · exact extF_inv hi he (by assumption)
  split
  · exact begF_inv hi he (by assumption)
  split
  · exact mustF_inv hi rfl he hs
  split
  · exact reset_inv hi he (by assumption)
  · exact trailerF_inv hi he hs (by assumption)
end
end Go.Proofs.YtdfgdpjlbcnkfaaDoor.Q
namespace Go.Proofs.YtdfgdpjlbcnkfaaDoor.Q
open Go Go.Proofs.YtdfgdpjlbcnkfaaDoorAbs Go.Proofs
set_option linter.unusedVariables false
set_option linter.unusedSimpArgs false
set_option maxRecDepth 100000
set_option maxHeartbeats 4000000
attribute [local irreducible] Go.Proofs.YtdfgdpjlbcnkfaaDoorAbs.O Go.Proofs.YtdfgdpjlbcnkfaaDoorAbs.W Go.Proofs.YtdfgdpjlbcnkfaaDoorAbs.C Go.Proofs.YtdfgdpjlbcnkfaaDoorAbs.OK Go.Proofs.YtdfgdpjlbcnkfaaDoorAbs.OKF Go.Proofs.YtdfgdpjlbcnkfaaDoorAbs.OKT Go.Proofs.YtdfgdpjlbcnkfaaDoorAbs.then_ Go.Proofs.YtdfgdpjlbcnkfaaDoorAbs.inBlock_ Go.Proofs.YtdfgdpjlbcnkfaaDoorAbs.bodyQ Go.Proofs.YtdfgdpjlbcnkfaaDoorAbs.Cont
section
variable {I : Prims} {S : St} {Q : Value → St → Prop}
theorem u8v_one (l : List UInt8) : (u8v l).all oneC = true := by
  rw [List.all_eq_true]; intro x hx; simp only [u8v, List.mem_map] at hx; obtain ⟨_, _, rfl⟩ := hx; rfl
def FeedJ (S : St) (b : Nat) (r : PRd) (tv lv v : Value) (xs : List UInt8) (n : Nat) (e : Env) (S1 : St) : Prop :=
  ∃ (k : Nat) (r1 : PRd) (out : List UInt8) (tv1 lv1 ov : Value) (m1 : Nat), e.get 0 = .pointer (some ⟨b, 0, some 11⟩) ∧ e.get 1 = v ∧ e.get 8 = ov ∧ e.get 9 = .int .i64 k ∧ k ≤ xs.length ∧ n = xs.length - k ∧ Rd S1 b r1 tv1 lv1 m1 ∧ RInv r1 ∧ Mv S S1 b tv lv tv1 lv1 ∧
    Own 5 1 S1 ov out.length (u8v out) ∧ (∀ i, blkOf ov = some i → S.next ≤ i) ∧ Apart ov b tv1 lv1 ∧ out.length ≤ k ∧ feedF r xs = (k + (feedF r1 (xs.drop k)).1, out ++ (feedF r1 (xs.drop k)).2.1, (feedF r1 (xs.drop k)).2.2)
theorem feed_stop (r : PRd) (xs : List UInt8) (h : xs = [] ∨ r.err ≠ none ∨ r.state = 8) : feedF r xs = (0, [], r) := by
  cases xs with
  | nil => rfl
  | cons c l =>
    unfold feedF
    rw [if_pos (by rcases h with q | q; cases q; exact q)]
theorem Feed_C (h : HI I) {b m : Nat} {r : PRd} {tv lv v : Value} {xs : List UInt8} (hR : Rd S b r tv lv m) (hi : RInv r) (hx : Sl S v xs) (hv : Apart v b tv lv) (hvn : ∀ i, blkOf v = some i → i < S.next) (hxn : xs.length ≤ 1099511627776)
    (hQ : ∀ S' tv' lv' m' ov, Rd S' b (feedF r xs).2.2 tv' lv' m' → RInv (feedF r xs).2.2 → Mv S S' b tv lv tv' lv' → Own 5 1 S' ov (feedF r xs).2.1.length (u8v (feedF r xs).2.1) → (∀ i, blkOf ov = some i → S.next ≤ i) → Apart ov b tv' lv' →
      Q (.tuple #[.int .i64 (feedF r xs).1, ov, .bool (decide ((feedF r xs).2.2.state = 8)), errW (feedF r xs).2.2.err]) S') :
    C Tryd.prog I 15 #[.pointer (some ⟨b, 0, some 11⟩), v] S Q := by
  refine C_body (rs := [.tmp 4, .tmp 5, .tmp 6, .tmp 7]) (h.no 15 (by decide)) Tryd.func15 rfl rfl ok15 ?_
  obtain ⟨u22, sz5, u5, u9, u3, u29, u34, u33, sz3, u4, u41, sz66, u46, sz28, u47, u52, sz22, sz62, sz24, sz59, u59, sz60, u60, sz41, sz58, u58, sz73, sz34, sz4, sz9, sz83, u88, sz86, u112, sz118, u118, u2, sz126, u126, u21, sz130, u130, u139, u140, sz141, u141, u145, u148, sz147, u154, u155⟩ := UF
  repeat' (first
    | (with_reducible first | refine W_pushC fun K hK => ?_ | refine W_blockI ?_ | refine W_scopeI ?_ | refine W_labelI ?_ | refine W_skipI ?_ | refine W_retI ?_ | refine W_exitI ?_ | refine then_normalI ?_ | refine then_retI ?_ | refine then_exitI ?_ | refine inBlock_normalI ?_ | refine inBlock_retI ?_ | refine inBlock_exitI ?_ | refine inBlock_exitN (by decide) ?_)
    | ((with_reducible first | refine bodyQ_normal0 ?_ | refine bodyQ_normal1 ?_ | refine bodyQ_normal2 ?_ | refine bodyQ_normal3 ?_ | refine bodyQ_normal4 ?_ | refine bodyQ_ret0 ?_ | refine bodyQ_ret1 ?_ | refine bodyQ_ret2 ?_ | refine bodyQ_ret3 ?_ | refine bodyQ_ret4 ?_); (try simp only [EVB, Nat.reduceEqDiff, reduceIte]))
    | (with_reducible refine Cont.use (by assumption) ?_)
    | (with_reducible first | refine hcA ?_ | refine hcB ?_)
    | ((with_reducible first | refine W_condG fun cA cB hcA hcB => ?_ | refine W_regionI ?_ | show O _ _ _ _ _ _ _ _ | show OK _ _ _ _ _ _ _ _ _ | show OKF _ _ _ _ _ _ _ _ _ _ | show OKT _ _ _ _ _ _ _ _ _ _ _ _ | show _ ∧ _ | show CG _ _ _ | show CB _ _ _); simp (disch := first | ((with_reducible show isStop _ = false); rfl) | ((with_reducible show isP _ = true); rfl) | ((with_reducible show (isStop _ || isP _) = false); rfl) | assumption | (simp only [GSB, Nat.reduceEqDiff, reduceIte]; done) | omega | (with_reducible decide) | (simp only [DSB, Go.Proofs.YtdfgdpjlbcnkfaaDoorAbs.oneC, Nat.reduceAdd, Nat.reduceLeDiff] <;> omega) | fail) only [↓DN, ↓reduceIte, UP, CGB, Int.reduceEq, Int.reduceLT, Int.reduceLE, Nat.reduceEqDiff, Nat.reduceAdd, Nat.reduceMul, Nat.reduceSub, Int.reduceToNat, Nat.reduceLeDiff, PF, isStop, isP, goInt, beq_self_eq_true, decide_true, decide_false, Int.toNat_natCast, nn_eq, nn_ne])
    | ((with_reducible refine CB_intro (fun ht => hcA ?_) (fun ht => hcB ?_)) <;> (first | (simp only [Bool.true_eq_false, Bool.false_eq_true] at ht; done) | ((try simp only [Bool.not_eq_true', Bool.not_eq_false'] at ht); (try simp only [ht]); (try simp only [HTN] at ht); (try (exfalso; omega)))))
    | ((with_reducible refine W_regionI ?_); simp only [List.append_eq, List.cons_append, List.nil_append])
    | (with_reducible refine O_splitG fun cA cB hcA hcB => ?_))
  refine W_loop (FeedJ S b r tv lv v xs) xs.length ⟨0, r, [], tv, lv, .slice none 0 0, m, by simp only [EVB, Nat.reduceEqDiff, reduceIte], by simp only [EVB, Nat.reduceEqDiff, reduceIte], by simp only [EVB, Nat.reduceEqDiff, reduceIte], by simp only [EVB, Nat.reduceEqDiff, reduceIte]; rfl, Nat.zero_le _, by simp, hR, hi, Mv.refl, Own.nil _ _ _, by simp [blkOf], fun i hi => by simp [blkOf] at hi, by simp, by simp⟩ ?_
  rintro n e S1 ⟨k, r1, out, tv1, lv1, ov, m1, e0, e1, e8, e9, hk, hn, hR1, hi1, hM, hO, hon, hap, hol, hF⟩
  have hx1 := sl_mv hx hv hM
  have hv1 := hv.mv hM hvn
  obtain ⟨va, vc, rfl, hv0, hvv⟩ := hx1
  have hb := hR1.cell; have hm := hR1.hm; have hnb := hR1.hn
  simp only [CR.as, CR.cells] at hb
  obtain ⟨oa, oc, rfl⟩ := own_slice hO
  have wk : IntKind.i64.wrap ((xs.length : Int) - (k : Int)) = ((xs.length - k : Nat) : Int) := by rw [Go.Proofs.YtdfgdpjlbcnkfaaDoorAbs.wp64 (by omega) (by omega)]; omega
  by_cases hkl : k < xs.length
  case neg =>
    have hz := feed_stop r1 (xs.drop k) (.inl (List.drop_eq_nil_of_le (by omega)))
    rw [hz] at hF
    rw [hF] at hQ
    simp only [Nat.add_zero, List.append_nil] at hQ
    have hd : decide ((k : Int) < (xs.length : Int)) = false := decide_eq_false (by omega)
    repeat' (first
    | (with_reducible first | refine W_pushC fun K hK => ?_ | refine W_blockI ?_ | refine W_scopeI ?_ | refine W_labelI ?_ | refine W_skipI ?_ | refine W_retI ?_ | refine W_exitI ?_ | refine then_normalI ?_ | refine then_retI ?_ | refine then_exitI ?_ | refine inBlock_normalI ?_ | refine inBlock_retI ?_ | refine inBlock_exitI ?_ | refine inBlock_exitN (by decide) ?_)
    | ((with_reducible first | refine bodyQ_normal0 ?_ | refine bodyQ_normal1 ?_ | refine bodyQ_normal2 ?_ | refine bodyQ_normal3 ?_ | refine bodyQ_normal4 ?_ | refine bodyQ_ret0 ?_ | refine bodyQ_ret1 ?_ | refine bodyQ_ret2 ?_ | refine bodyQ_ret3 ?_ | refine bodyQ_ret4 ?_); (try simp only [EVB, Nat.reduceEqDiff, reduceIte]))
    | (with_reducible refine Cont.use (by assumption) ?_)
    | (with_reducible first | refine hcA ?_ | refine hcB ?_)
    | ((with_reducible show W _ _ (.region _ _ true) _ _ _); first | (refine W_drawn (fl := [true, true, true, true, true, true, true, true, true, true, true, true, true, true, true]) (by kernel_rfl) ?_))
    | ((with_reducible first | refine W_condG fun cA cB hcA hcB => ?_ | refine W_regionI ?_ | show O _ _ _ _ _ _ _ _ | show OK _ _ _ _ _ _ _ _ _ | show OKF _ _ _ _ _ _ _ _ _ _ | show OKT _ _ _ _ _ _ _ _ _ _ _ _ | show _ ∧ _ | show CG _ _ _ | show CB _ _ _); simp (disch := first | ((with_reducible show isStop _ = false); rfl) | ((with_reducible show isP _ = true); rfl) | ((with_reducible show (isStop _ || isP _) = false); rfl) | assumption | (simp only [GSB, Nat.reduceEqDiff, reduceIte]; done) | omega | (with_reducible decide) | (simp only [DSB, Go.Proofs.YtdfgdpjlbcnkfaaDoorAbs.oneC, Nat.reduceAdd, Nat.reduceLeDiff] <;> omega) | fail) only [↓DN, ↓reduceIte, UP, CGB, Int.reduceEq, Int.reduceLT, Int.reduceLE, Nat.reduceEqDiff, Nat.reduceAdd, Nat.reduceMul, Nat.reduceSub, Int.reduceToNat, Nat.reduceLeDiff, PF, isStop, isP, goInt, beq_self_eq_true, decide_true, decide_false, Int.toNat_natCast, nn_eq, nn_ne, hb, e0, e1, e8, e9, hd])
    | ((with_reducible refine CB_intro (fun ht => hcA ?_) (fun ht => hcB ?_)) <;> (first | (simp only [Bool.true_eq_false, Bool.false_eq_true] at ht; done) | ((try simp only [Bool.not_eq_true', Bool.not_eq_false'] at ht); (try simp only [ht]); (try simp only [HTN] at ht); (try (exfalso; omega)))))
    | ((with_reducible refine W_regionI ?_); simp only [List.append_eq, List.cons_append, List.nil_append])
    | (with_reducible refine O_splitG fun cA cB hcA hcB => ?_)
    | (exact hQ _ _ _ _ _ hR1 hi1 hM hO hon hap))
  have hd : decide ((k : Int) < (xs.length : Int)) = true := decide_eq_true (by omega)
  rcases he : r1.err with _ | ec
  case some =>
    have hz := feed_stop r1 (xs.drop k) (.inr (.inl (by simp [he])))
    rw [hz] at hF
    rw [hF] at hQ
    simp only [Nat.add_zero, List.append_nil] at hQ
    rw [he] at hb hQ
    simp only [errW] at hb hQ
    repeat' (first
    | (with_reducible first | refine W_pushC fun K hK => ?_ | refine W_blockI ?_ | refine W_scopeI ?_ | refine W_labelI ?_ | refine W_skipI ?_ | refine W_retI ?_ | refine W_exitI ?_ | refine then_normalI ?_ | refine then_retI ?_ | refine then_exitI ?_ | refine inBlock_normalI ?_ | refine inBlock_retI ?_ | refine inBlock_exitI ?_ | refine inBlock_exitN (by decide) ?_)
    | ((with_reducible first | refine bodyQ_normal0 ?_ | refine bodyQ_normal1 ?_ | refine bodyQ_normal2 ?_ | refine bodyQ_normal3 ?_ | refine bodyQ_normal4 ?_ | refine bodyQ_ret0 ?_ | refine bodyQ_ret1 ?_ | refine bodyQ_ret2 ?_ | refine bodyQ_ret3 ?_ | refine bodyQ_ret4 ?_); (try simp only [EVB, Nat.reduceEqDiff, reduceIte]))
    | (with_reducible refine Cont.use (by assumption) ?_)
    | (with_reducible first | refine hcA ?_ | refine hcB ?_)
    | ((with_reducible show W _ _ (.region _ _ true) _ _ _); first | (refine W_drawn (fl := [true, true, true, true, true, true, true, true, true, true, true, true, true, true, true]) (by kernel_rfl) ?_))
    | ((with_reducible first | refine W_condG fun cA cB hcA hcB => ?_ | refine W_regionI ?_ | show O _ _ _ _ _ _ _ _ | show OK _ _ _ _ _ _ _ _ _ | show OKF _ _ _ _ _ _ _ _ _ _ | show OKT _ _ _ _ _ _ _ _ _ _ _ _ | show _ ∧ _ | show CG _ _ _ | show CB _ _ _); simp (disch := first | ((with_reducible show isStop _ = false); rfl) | ((with_reducible show isP _ = true); rfl) | ((with_reducible show (isStop _ || isP _) = false); rfl) | assumption | (simp only [GSB, Nat.reduceEqDiff, reduceIte]; done) | omega | (with_reducible decide) | (simp only [DSB, Go.Proofs.YtdfgdpjlbcnkfaaDoorAbs.oneC, Nat.reduceAdd, Nat.reduceLeDiff] <;> omega) | fail) only [↓DN, ↓reduceIte, UP, CGB, Int.reduceEq, Int.reduceLT, Int.reduceLE, Nat.reduceEqDiff, Nat.reduceAdd, Nat.reduceMul, Nat.reduceSub, Int.reduceToNat, Nat.reduceLeDiff, PF, isStop, isP, goInt, beq_self_eq_true, decide_true, decide_false, Int.toNat_natCast, nn_eq, nn_ne, hb, e0, e1, e8, e9, hd])
    | ((with_reducible refine CB_intro (fun ht => hcA ?_) (fun ht => hcB ?_)) <;> (first | (simp only [Bool.true_eq_false, Bool.false_eq_true] at ht; done) | ((try simp only [Bool.not_eq_true', Bool.not_eq_false'] at ht); (try simp only [ht]); (try simp only [HTN] at ht); (try (exfalso; omega)))))
    | ((with_reducible refine W_regionI ?_); simp only [List.append_eq, List.cons_append, List.nil_append])
    | (with_reducible refine O_splitG fun cA cB hcA hcB => ?_)
    | (exact hQ _ _ _ _ _ hR1 hi1 hM hO hon hap))
  rw [he] at hb
  simp only [errW] at hb
  by_cases s8 : r1.state = 8
  · have hz := feed_stop r1 (xs.drop k) (.inr (.inr s8))
    rw [hz] at hF
    rw [hF] at hQ
    simp only [Nat.add_zero, List.append_nil] at hQ
    rw [he, s8] at hQ
    simp only [errW] at hQ
    rw [s8] at hb
    repeat' (first
    | (with_reducible first | refine W_pushC fun K hK => ?_ | refine W_blockI ?_ | refine W_scopeI ?_ | refine W_labelI ?_ | refine W_skipI ?_ | refine W_retI ?_ | refine W_exitI ?_ | refine then_normalI ?_ | refine then_retI ?_ | refine then_exitI ?_ | refine inBlock_normalI ?_ | refine inBlock_retI ?_ | refine inBlock_exitI ?_ | refine inBlock_exitN (by decide) ?_)
    | ((with_reducible first | refine bodyQ_normal0 ?_ | refine bodyQ_normal1 ?_ | refine bodyQ_normal2 ?_ | refine bodyQ_normal3 ?_ | refine bodyQ_normal4 ?_ | refine bodyQ_ret0 ?_ | refine bodyQ_ret1 ?_ | refine bodyQ_ret2 ?_ | refine bodyQ_ret3 ?_ | refine bodyQ_ret4 ?_); (try simp only [EVB, Nat.reduceEqDiff, reduceIte]))
    | (with_reducible refine Cont.use (by assumption) ?_)
    | (with_reducible first | refine hcA ?_ | refine hcB ?_)
    | ((with_reducible show W _ _ (.region _ _ true) _ _ _); first | (refine W_drawn (fl := [true, true, true, true, true, true, true, true, true, true, true, true, true, true, true]) (by kernel_rfl) ?_))
    | ((with_reducible first | refine W_condG fun cA cB hcA hcB => ?_ | refine W_regionI ?_ | show O _ _ _ _ _ _ _ _ | show OK _ _ _ _ _ _ _ _ _ | show OKF _ _ _ _ _ _ _ _ _ _ | show OKT _ _ _ _ _ _ _ _ _ _ _ _ | show _ ∧ _ | show CG _ _ _ | show CB _ _ _); simp (disch := first | ((with_reducible show isStop _ = false); rfl) | ((with_reducible show isP _ = true); rfl) | ((with_reducible show (isStop _ || isP _) = false); rfl) | assumption | (simp only [GSB, Nat.reduceEqDiff, reduceIte]; done) | omega | (with_reducible decide) | (simp only [DSB, Go.Proofs.YtdfgdpjlbcnkfaaDoorAbs.oneC, Nat.reduceAdd, Nat.reduceLeDiff] <;> omega) | fail) only [↓DN, ↓reduceIte, UP, CGB, Int.reduceEq, Int.reduceLT, Int.reduceLE, Nat.reduceEqDiff, Nat.reduceAdd, Nat.reduceMul, Nat.reduceSub, Int.reduceToNat, Nat.reduceLeDiff, PF, isStop, isP, goInt, beq_self_eq_true, decide_true, decide_false, Int.toNat_natCast, nn_eq, nn_ne, hb, e0, e1, e8, e9, hd])
    | ((with_reducible refine CB_intro (fun ht => hcA ?_) (fun ht => hcB ?_)) <;> (first | (simp only [Bool.true_eq_false, Bool.false_eq_true] at ht; done) | ((try simp only [Bool.not_eq_true', Bool.not_eq_false'] at ht); (try simp only [ht]); (try simp only [HTN] at ht); (try (exfalso; omega)))))
    | ((with_reducible refine W_regionI ?_); simp only [List.append_eq, List.cons_append, List.nil_append])
    | (with_reducible refine O_splitG fun cA cB hcA hcB => ?_)
    | (exact hQ _ _ _ _ _ hR1 hi1 hM hO hon hap))
  have hne : xs ≠ [] := fun q => by rw [q] at hkl; simp at hkl
  obtain ⟨vb, vo, vL, cs, el, own, vm, rfl, hcap, hvc, hvo, hvt, hvn1⟩ := hvv hne
  have w8 : decide (r1.state = 8) = false := decide_eq_false s8
  by_cases s3 : r1.state = 3
  · have hd1 := hi1.dat s3
    have hl1 := hi1.left
    have hle := hi1.len
    have hmo := hi1.most
    rw [s3] at hb
    obtain ⟨j, hj⟩ : ∃ j : Nat, (if ((xs.length - k : Nat) : Int) < r1.left then ((xs.length - k : Nat) : Int) else r1.left) = (j : Int) := by
      split
      · exact ⟨_, rfl⟩
      · exact ⟨r1.left.toNat, by omega⟩
    have hj1 : (j : Int) ≤ r1.left ∧ j ≤ xs.length - k ∧ 0 < j := by split at hj <;> omega
    have w2 : IntKind.u64.wrap ((xs.length - k : Nat) : Int) = ((xs.length - k : Nat) : Int) := Go.Proofs.YtdfgdpjlbcnkfaaDoorAbs.wpu64 (by omega) (by omega)
    have w3 : IntKind.i64.wrap (j : Int) = (j : Int) := Go.Proofs.YtdfgdpjlbcnkfaaDoorAbs.wp64 (by omega) (by omega)
    have w4 : IntKind.i64.wrap ((k : Int) + (j : Int)) = ((k + j : Nat) : Int) := by rw [Go.Proofs.YtdfgdpjlbcnkfaaDoorAbs.wp64 (by omega) (by omega)]; omega
    have w5 : IntKind.i64.wrap (r1.len + (j : Int)) = r1.len + j := Go.Proofs.YtdfgdpjlbcnkfaaDoorAbs.wp64 (by omega) (by omega)
    have w6 : IntKind.u64.wrap (j : Int) = (j : Int) := Go.Proofs.YtdfgdpjlbcnkfaaDoorAbs.wpu64 (by omega) (by omega)
    have w7 : IntKind.u64.wrap (r1.left - (j : Int)) = r1.left - j := Go.Proofs.YtdfgdpjlbcnkfaaDoorAbs.wpu64 (by omega) (by omega)
    have hkj : k + j - k = j := by omega
    obtain ⟨c2, hsl⟩ : ∃ c2, aslice Tryd.prog 22 (.slice (some ⟨vb, vo, some vL⟩) xs.length vc) (some (.int .i64 (k : Int))) (some (.int .i64 ((k + j : Nat) : Int))) none = some (.slice (some ⟨vb, vo + k, some vL⟩) j c2) := by
      rcases hcap with rfl | ⟨q1, q2⟩
      · refine ⟨UNK + 1, ?_⟩
        rw [aslice_lh u22 sz5 (by omega) (by omega) (by omega)]
        simp only [Int.toNat_natCast, Nat.mul_one, hkj]
      · refine ⟨vc - k, ?_⟩
        have a1 : (0 : Int) ≤ (k : Int) := Int.natCast_nonneg _
        have a2 : (0 : Int) ≤ ((k + j : Nat) : Int) := Int.natCast_nonneg _
        have a3 : ¬ UNK ≤ vc := by omega
        simp only [aslice, anat, if_pos a1, if_pos a2, u22, sz5, Int.toNat_natCast]
        rw [if_pos (.inl q2), if_neg a3]
        have a4 : k + j ≤ vc := by omega
        simp [abounds, asub, a3, a4, hkj]
    repeat' (first
    | (with_reducible first | refine W_pushC fun K hK => ?_ | refine W_blockI ?_ | refine W_scopeI ?_ | refine W_labelI ?_ | refine W_skipI ?_ | refine W_retI ?_ | refine W_exitI ?_ | refine then_normalI ?_ | refine then_retI ?_ | refine then_exitI ?_ | refine inBlock_normalI ?_ | refine inBlock_retI ?_ | refine inBlock_exitI ?_ | refine inBlock_exitN (by decide) ?_)
    | ((with_reducible first | refine bodyQ_normal0 ?_ | refine bodyQ_normal1 ?_ | refine bodyQ_normal2 ?_ | refine bodyQ_normal3 ?_ | refine bodyQ_normal4 ?_ | refine bodyQ_ret0 ?_ | refine bodyQ_ret1 ?_ | refine bodyQ_ret2 ?_ | refine bodyQ_ret3 ?_ | refine bodyQ_ret4 ?_); (try simp only [EVB, Nat.reduceEqDiff, reduceIte]))
    | (with_reducible refine Cont.use (by assumption) ?_)
    | (with_reducible first | refine hcA ?_ | refine hcB ?_)
    | ((with_reducible show W _ _ (.region _ _ true) _ _ _); first | (refine W_drawn (fl := [true, true, true, true, true, true, true, true, true, true, true, true, true, true, true]) (by kernel_rfl) ?_))
    | ((with_reducible first | refine W_condG fun cA cB hcA hcB => ?_ | refine W_regionI ?_ | show O _ _ _ _ _ _ _ _ | show OK _ _ _ _ _ _ _ _ _ | show OKF _ _ _ _ _ _ _ _ _ _ | show OKT _ _ _ _ _ _ _ _ _ _ _ _ | show _ ∧ _ | show CG _ _ _ | show CB _ _ _); simp (disch := first | ((with_reducible show isStop _ = false); rfl) | ((with_reducible show isP _ = true); rfl) | ((with_reducible show (isStop _ || isP _) = false); rfl) | assumption | (simp only [GSB, Nat.reduceEqDiff, reduceIte]; done) | omega | (with_reducible decide) | (simp only [DSB, Go.Proofs.YtdfgdpjlbcnkfaaDoorAbs.oneC, Nat.reduceAdd, Nat.reduceLeDiff] <;> omega) | fail) only [↓DN, ↓reduceIte, UP, CGB, Int.reduceEq, Int.reduceLT, Int.reduceLE, Nat.reduceEqDiff, Nat.reduceAdd, Nat.reduceMul, Nat.reduceSub, Int.reduceToNat, Nat.reduceLeDiff, PF, isStop, isP, goInt, beq_self_eq_true, decide_true, decide_false, Int.toNat_natCast, nn_eq, nn_ne, hb, e0, e1, e8, e9, hd, wk, hj, w2, w3, w4, w5, w6, w7, hkj, hsl])
    | ((with_reducible refine CB_intro (fun ht => hcA ?_) (fun ht => hcB ?_)) <;> (first | (simp only [Bool.true_eq_false, Bool.false_eq_true] at ht; done) | ((try simp only [Bool.not_eq_true', Bool.not_eq_false'] at ht); (try simp only [ht]); (try simp only [HTN] at ht); (try (exfalso; omega)))))
    | ((with_reducible refine W_regionI ?_); simp only [List.append_eq, List.cons_append, List.nil_append])
    | (with_reducible refine O_splitG fun cA cB hcA hcB => ?_))
    have hsrc : asrc Tryd.prog S1 22 1 (.slice (some ⟨vb, vo + k, some vL⟩) j c2) = some (j, u8v ((xs.drop k).take j)) := by
      simp only [asrc, u22]
      rw [if_neg (by omega)]
      have : aread S1 ⟨vb, vo + k, some vL⟩ (j * 1) = some (u8v ((xs.drop k).take j)) := by
        have hlen : xs.length ≤ (cs.drop vo).length := by
          have := congrArg List.length hvt
          simp [u8v] at this ⊢
          omega
        unfold aread
        simp only [hvc]
        rw [if_pos ⟨fun q => ⟨(hvo q).1, by have := (hvo q).2; show vo + k + j * 1 ≤ vL; omega⟩, by simp at hlen ⊢; omega⟩]
        congr 1
        rw [Nat.mul_one, ← List.drop_drop]
        have : u8v ((xs.drop k).take j) = ((u8v xs).drop k).take j := by simp [u8v, List.map_drop, List.map_take]
        rw [this, ← hvt, List.drop_take, List.take_take, Nat.min_eq_left (by omega)]
      simp only [this]
      rw [if_pos (u8v_one _)]
    refine O_append (P := Tryd.prog) (elem := 5) (size := 1) (bytes := 1) (n := out.length) (m := j) (xs := u8v out) (ys := u8v ((xs.drop k).take j)) u22 sz5 by5 ze5 ⟨by decide, by decide, rfl⟩ (by simp only [EVB, Nat.reduceEqDiff, reduceIte, e8]; exact hO) (by simp only [EVB, Nat.reduceEqDiff, reduceIte]; exact hsrc) ⟨by simp [u8v]; omega, u8v_one _⟩ (by omega) fun ov2 S2 hO2 hKp hB => ?_
    simp only [EVB, Nat.reduceEqDiff, reduceIte, e8] at hKp hB
    have hR2 := hR1.kept hKp (fun i hi => by obtain ⟨q1, q2, q3⟩ := hap i hi; exact ⟨q1, q2, q3⟩)
    have hb := hR2.cell; have hnb2 := hR2.hn
    simp only [CR.as, CR.cells] at hb
    rw [s3, he] at hb
    simp only [errW] at hb
    obtain ⟨oa2, oc2, rfl⟩ := own_slice hO2
    repeat' (first
    | (with_reducible first | refine W_pushC fun K hK => ?_ | refine W_blockI ?_ | refine W_scopeI ?_ | refine W_labelI ?_ | refine W_skipI ?_ | refine W_retI ?_ | refine W_exitI ?_ | refine then_normalI ?_ | refine then_retI ?_ | refine then_exitI ?_ | refine inBlock_normalI ?_ | refine inBlock_retI ?_ | refine inBlock_exitI ?_ | refine inBlock_exitN (by decide) ?_)
    | ((with_reducible first | refine bodyQ_normal0 ?_ | refine bodyQ_normal1 ?_ | refine bodyQ_normal2 ?_ | refine bodyQ_normal3 ?_ | refine bodyQ_normal4 ?_ | refine bodyQ_ret0 ?_ | refine bodyQ_ret1 ?_ | refine bodyQ_ret2 ?_ | refine bodyQ_ret3 ?_ | refine bodyQ_ret4 ?_); (try simp only [EVB, Nat.reduceEqDiff, reduceIte]))
    | (with_reducible refine Cont.use (by assumption) ?_)
    | (with_reducible first | refine hcA ?_ | refine hcB ?_)
    | ((with_reducible show W _ _ (.region _ _ true) _ _ _); first | (refine W_drawn (fl := [true, true, true, true, true, true, true, true, true, true, true, true, true, true, true]) (by kernel_rfl) ?_))
    | ((with_reducible first | refine W_condG fun cA cB hcA hcB => ?_ | refine W_regionI ?_ | show O _ _ _ _ _ _ _ _ | show OK _ _ _ _ _ _ _ _ _ | show OKF _ _ _ _ _ _ _ _ _ _ | show OKT _ _ _ _ _ _ _ _ _ _ _ _ | show _ ∧ _ | show CG _ _ _ | show CB _ _ _); simp (disch := first | ((with_reducible show isStop _ = false); rfl) | ((with_reducible show isP _ = true); rfl) | ((with_reducible show (isStop _ || isP _) = false); rfl) | assumption | (simp only [GSB, Nat.reduceEqDiff, reduceIte]; done) | omega | (with_reducible decide) | (simp only [DSB, Go.Proofs.YtdfgdpjlbcnkfaaDoorAbs.oneC, Nat.reduceAdd, Nat.reduceLeDiff] <;> omega) | fail) only [↓DN, ↓reduceIte, UP, CGB, Int.reduceEq, Int.reduceLT, Int.reduceLE, Nat.reduceEqDiff, Nat.reduceAdd, Nat.reduceMul, Nat.reduceSub, Int.reduceToNat, Nat.reduceLeDiff, PF, isStop, isP, goInt, beq_self_eq_true, decide_true, decide_false, Int.toNat_natCast, nn_eq, nn_ne, hb, e0, e1, e8, e9, hd, wk, hj, w2, w3, w4, w5, w6, w7, hkj])
    | ((with_reducible refine CB_intro (fun ht => hcA ?_) (fun ht => hcB ?_)) <;> (first | (simp only [Bool.true_eq_false, Bool.false_eq_true] at ht; done) | ((try simp only [Bool.not_eq_true', Bool.not_eq_false'] at ht); (try simp only [ht]); (try simp only [HTN] at ht); (try (exfalso; omega)))))
    | ((with_reducible refine W_regionI ?_); simp only [List.append_eq, List.cons_append, List.nil_append])
    | (with_reducible refine O_splitG fun cA cB hcA hcB => ?_))
    all_goals
      have hM2 := (hM.kept hKp hon)
      have hob : blkOf (.slice oa2 (out.length + j) oc2) ≠ some b := by
        rcases hB with q | ⟨i, q1, q2⟩
        · rw [q]; intro z; exact (hap b z).1 rfl
        · rw [q2]; intro z; cases z; omega
      have hon2 : ∀ i, blkOf (.slice oa2 (out.length + j) oc2) = some i → S.next ≤ i := by
        intro i hi
        rcases hB with q | ⟨i', q1, q2⟩
        · exact hon i (q ▸ hi)
        · rw [q2] at hi; cases hi; exact Nat.le_trans hM.next q1
      have hap2 : Apart (.slice oa2 (out.length + j) oc2) b tv1 lv1 := by
        intro i hi
        rcases hB with q | ⟨i', q1, q2⟩
        · exact hap i (q ▸ hi)
        · rw [q2] at hi; cases hi
          refine ⟨by omega, fun z => ?_, fun z => ?_⟩
          · have := own_lt hR1.text z; omega
          · have := own_lt hR1.trl z; omega
      have hyl : ((xs.drop k).take j).length = j := by simp; omega
      have hfd := feed_data r1 he s3 ((xs.drop k).take j) ((xs.drop k).drop j) (fun z => by rw [z] at hyl; simp at hyl; omega) (by rw [hyl]; exact hj1.1)
      rw [List.take_append_drop, List.drop_drop, hyl] at hfd
      rw [hfd] at hF
      have hO3 : Own 5 1 S2 (.slice oa2 (out.length + j) oc2) (out ++ (xs.drop k).take j).length (u8v (out ++ (xs.drop k).take j)) := by
        rw [List.length_append, hyl]
        simpa [u8v] using hO2
      have hcells : [Value.int .i64 r1.most, .int .i64 (r1.len + j), .int .i64 (if r1.left - (j : Int) = 0 then 4 else 3), .nilIface, .int .i64 r1.digits, .int .u64 (r1.left - j), .bool r1.over, .int .i64 r1.extra, tv1, .int .i64 r1.sum, lv1] = ((dataF r1 j).as tv1 lv1).cells := by
        simp [dataF, CR.as, CR.cells, errW, he, s3]
      refine ⟨xs.length - (k + j), by omega, k + j, dataF r1 j, out ++ (xs.drop k).take j, tv1, lv1, _, 11, by simp only [EVB, Nat.reduceEqDiff, reduceIte, e0], by simp only [EVB, Nat.reduceEqDiff, reduceIte, e1], by simp only [EVB, Nat.reduceEqDiff, reduceIte], by simp only [EVB, Nat.reduceEqDiff, reduceIte], by omega, rfl, hR2.upd (dataF r1 j) (by rw [← hcells]; simp [*]) rfl rfl, dataF_inv hi1 he s3 hj1.1, hM2.trans Mv.upd, own_upd hO3 hob, hon2, hap2, by rw [List.length_append, hyl]; omega, by rw [hF]; simp [Nat.add_assoc]⟩
  have d3 : decide (r1.state = 3) = false := decide_eq_false s3
  obtain ⟨c, hc⟩ : ∃ c, xs[k]? = some c := ⟨xs[k], by simp [hkl]⟩
  have hcell : cellAt (S1.get vb) (vo + k) vL = some (.int .u8 c.toNat) := by
    have e1 : ((cs.drop vo).take xs.length)[k]? = some (.int .u8 c.toNat) := by rw [hvt]; simp [u8v, hc]
    rw [List.getElem?_take, if_pos hkl, List.getElem?_drop] at e1
    rw [hvc]
    simp only [cellAt]
    rw [if_pos (fun q => ⟨(hvo q).1, by have := (hvo q).2; omega⟩)]
    exact e1
  have w4 : IntKind.i64.wrap ((k : Int) + 1) = ((k + 1 : Nat) : Int) := by rw [Go.Proofs.YtdfgdpjlbcnkfaaDoorAbs.wp64 (by omega) (by omega)]; omega
  have hsm := hi1.sum; have htx := hi1.text; have htr := hi1.trl
  have htl : r1.text.length ≤ 8192 := by have := hsm.2.2 he; omega
  have hdr : xs.drop k = c :: xs.drop (k + 1) := by
    rw [List.drop_eq_getElem_cons hkl]
    congr 1
    rw [List.getElem?_eq_getElem hkl] at hc
    exact Option.some.inj hc
  have hfd : feedF r1 (xs.drop k) = ((feedF (stepF r1 c) (xs.drop (k + 1))).1 + 1, (feedF (stepF r1 c) (xs.drop (k + 1))).2.1, (feedF (stepF r1 c) (xs.drop (k + 1))).2.2) := by
    rw [hdr]
    conv => lhs; unfold feedF
    rw [if_neg (by simp [he, s8])]
    simp [byteF, outF, s3]
  rw [hfd] at hF
  repeat' (first
    | (with_reducible first | refine W_pushC fun K hK => ?_ | refine W_blockI ?_ | refine W_scopeI ?_ | refine W_labelI ?_ | refine W_skipI ?_ | refine W_retI ?_ | refine W_exitI ?_ | refine then_normalI ?_ | refine then_retI ?_ | refine then_exitI ?_ | refine inBlock_normalI ?_ | refine inBlock_retI ?_ | refine inBlock_exitI ?_ | refine inBlock_exitN (by decide) ?_)
    | ((with_reducible first | refine bodyQ_normal0 ?_ | refine bodyQ_normal1 ?_ | refine bodyQ_normal2 ?_ | refine bodyQ_normal3 ?_ | refine bodyQ_normal4 ?_ | refine bodyQ_ret0 ?_ | refine bodyQ_ret1 ?_ | refine bodyQ_ret2 ?_ | refine bodyQ_ret3 ?_ | refine bodyQ_ret4 ?_); (try simp only [EVB, Nat.reduceEqDiff, reduceIte]))
    | ((with_reducible show C _ _ _ _ _ _); first | (refine step_C h hR1 htl htr.1 hi1.col (fun S2 tv2 lv2 m2 hR2 hM2 => ?_)))
    | (with_reducible refine Cont.use (by assumption) ?_)
    | (with_reducible first | refine hcA ?_ | refine hcB ?_)
    | ((with_reducible show W _ _ (.region _ _ true) _ _ _); first | (refine W_drawn (fl := [true, true, true, true, true, true, true, true, true, true, true, true, true, true, true]) (by kernel_rfl) ?_))
    | ((with_reducible first | refine W_condG fun cA cB hcA hcB => ?_ | refine W_regionI ?_ | show O _ _ _ _ _ _ _ _ | show OK _ _ _ _ _ _ _ _ _ | show OKF _ _ _ _ _ _ _ _ _ _ | show OKT _ _ _ _ _ _ _ _ _ _ _ _ | show _ ∧ _ | show CG _ _ _ | show CB _ _ _); simp (disch := first | ((with_reducible show isStop _ = false); rfl) | ((with_reducible show isP _ = true); rfl) | ((with_reducible show (isStop _ || isP _) = false); rfl) | assumption | (simp only [GSB, Nat.reduceEqDiff, reduceIte]; done) | omega | (with_reducible decide) | (simp only [DSB, Go.Proofs.YtdfgdpjlbcnkfaaDoorAbs.oneC, Nat.reduceAdd, Nat.reduceLeDiff] <;> omega) | fail) only [↓DN, ↓reduceIte, UP, CGB, Int.reduceEq, Int.reduceLT, Int.reduceLE, Nat.reduceEqDiff, Nat.reduceAdd, Nat.reduceMul, Nat.reduceSub, Int.reduceToNat, Nat.reduceLeDiff, PF, isStop, isP, goInt, beq_self_eq_true, decide_true, decide_false, Int.toNat_natCast, nn_eq, nn_ne, hb, e0, e1, e8, e9, hd, w8, d3, hcell, w4])
    | ((with_reducible refine CB_intro (fun ht => hcA ?_) (fun ht => hcB ?_)) <;> (first | (simp only [Bool.true_eq_false, Bool.false_eq_true] at ht; done) | ((try simp only [Bool.not_eq_true', Bool.not_eq_false'] at ht); (try simp only [ht]); (try simp only [HTN] at ht); (try (exfalso; omega)))))
    | ((with_reducible refine W_regionI ?_); simp only [List.append_eq, List.cons_append, List.nil_append])
    | (with_reducible refine O_splitG fun cA cB hcA hcB => ?_)
    | ((refine ⟨xs.length - (k + 1), by omega, k + 1, stepF r1 c, out, tv2, lv2, _, m2, by simp only [EVB, Nat.reduceEqDiff, reduceIte, e0], by simp only [EVB, Nat.reduceEqDiff, reduceIte, e1], by simp only [EVB, Nat.reduceEqDiff, reduceIte, e8], by simp only [EVB, Nat.reduceEqDiff, reduceIte], by omega, rfl, hR2, stepF_inv hi1 he s3, hM.trans hM2, own_mv hO hap hM2, hon, hap.mv hM2 (fun i hi => own_lt hO hi), by omega, by rw [hF]; simp [Nat.add_assoc, Nat.add_comm 1]⟩)))
end
end Go.Proofs.YtdfgdpjlbcnkfaaDoor.Q
namespace Go.Proofs.YtdfgdpjlbcnkfaaDoor.Q
open Go Go.Proofs.YtdfgdpjlbcnkfaaDoorAbs Go.Proofs
set_option linter.unusedVariables false
set_option linter.unusedSimpArgs false
set_option maxRecDepth 100000
set_option maxHeartbeats 4000000
attribute [local irreducible] Go.Proofs.YtdfgdpjlbcnkfaaDoorAbs.O Go.Proofs.YtdfgdpjlbcnkfaaDoorAbs.W Go.Proofs.YtdfgdpjlbcnkfaaDoorAbs.C Go.Proofs.YtdfgdpjlbcnkfaaDoorAbs.OK Go.Proofs.YtdfgdpjlbcnkfaaDoorAbs.OKF Go.Proofs.YtdfgdpjlbcnkfaaDoorAbs.OKT Go.Proofs.YtdfgdpjlbcnkfaaDoorAbs.then_ Go.Proofs.YtdfgdpjlbcnkfaaDoorAbs.inBlock_ Go.Proofs.YtdfgdpjlbcnkfaaDoorAbs.bodyQ Go.Proofs.YtdfgdpjlbcnkfaaDoorAbs.Cont
section
variable {I : Prims} {S : St} {Q : Value → St → Prop}
theorem nsl_eq (x : Operand) : binX Tryd.prog .eql 41 x (.const (.slice none 0 0)) (.slice none 0 0) (.slice none 0 0) = some (.bool true) := by cases x <;> kernel_rfl
def CR.fresh {α β : Type} (t : α) (l : β) (most : Int) : CR α β := ⟨most, 0, 0, none, 0, 0, false, 0, t, 0, l⟩
theorem New_C (h : HI I) {most : Int}
    (hQ : ¬ (most < 0 ∨ 1099511627776 < most) → Q (.tuple #[.pointer (some ⟨S.next, 0, some 11⟩), .nilIface]) (S.push ⟨(CR.fresh (.slice none 0 0) (.slice none 0 0) most).cells, 62, true, 0⟩))
    (hQ2 : (most < 0 ∨ 1099511627776 < most) → Q (.tuple #[.pointer none, .iface 58 (.int .i64 1)]) S) :
    C Tryd.prog I 12 #[.int .i64 most] S Q := by
  refine C_body (rs := [.tmp 2, .tmp 3]) (h.no 12 (by decide)) Tryd.func12 rfl rfl ok12 ?_
  obtain ⟨u22, sz5, u5, u9, u3, u29, u34, u33, sz3, u4, u41, sz66, u46, sz28, u47, u52, sz22, sz62, sz24, sz59, u59, sz60, u60, sz41, sz58, u58, sz73, sz34, sz4, sz9, sz83, u88, sz86, u112, sz118, u118, u2, sz126, u126, u21, sz130, u130, u139, u140, sz141, u141, u145, u148, sz147, u154, u155⟩ := UF
  repeat' (first
    | (with_reducible first | refine W_pushC fun K hK => ?_ | refine W_blockI ?_ | refine W_scopeI ?_ | refine W_labelI ?_ | refine W_skipI ?_ | refine W_retI ?_ | refine W_exitI ?_ | refine then_normalI ?_ | refine then_retI ?_ | refine then_exitI ?_ | refine inBlock_normalI ?_ | refine inBlock_retI ?_ | refine inBlock_exitI ?_ | refine inBlock_exitN (by decide) ?_)
    | ((with_reducible first | refine bodyQ_normal0 ?_ | refine bodyQ_normal1 ?_ | refine bodyQ_normal2 ?_ | refine bodyQ_normal3 ?_ | refine bodyQ_normal4 ?_ | refine bodyQ_ret0 ?_ | refine bodyQ_ret1 ?_ | refine bodyQ_ret2 ?_ | refine bodyQ_ret3 ?_ | refine bodyQ_ret4 ?_); (try simp only [EVB, Nat.reduceEqDiff, reduceIte]))
    | (with_reducible refine Cont.use (by assumption) ?_)
    | (with_reducible first | refine hcA ?_ | refine hcB ?_)
    | ((with_reducible first | refine W_condG fun cA cB hcA hcB => ?_ | refine W_regionI ?_ | show O _ _ _ _ _ _ _ _ | show OK _ _ _ _ _ _ _ _ _ | show OKF _ _ _ _ _ _ _ _ _ _ | show OKT _ _ _ _ _ _ _ _ _ _ _ _ | show _ ∧ _ | show CG _ _ _ | show CB _ _ _); simp (disch := first | ((with_reducible show isStop _ = false); rfl) | ((with_reducible show isP _ = true); rfl) | ((with_reducible show (isStop _ || isP _) = false); rfl) | assumption | (simp only [GSB, Nat.reduceEqDiff, reduceIte]; done) | omega | (with_reducible decide) | (simp only [DSB, Go.Proofs.YtdfgdpjlbcnkfaaDoorAbs.oneC, Nat.reduceAdd, Nat.reduceLeDiff] <;> omega) | fail) only [↓DN, ↓reduceIte, UP, CGB, Int.reduceEq, Int.reduceLT, Int.reduceLE, Nat.reduceEqDiff, Nat.reduceAdd, Nat.reduceMul, Nat.reduceSub, Int.reduceToNat, Nat.reduceLeDiff, PF, isStop, isP, goInt, beq_self_eq_true, decide_true, decide_false, Int.toNat_natCast, nn_eq, nn_ne])
    | ((with_reducible refine CB_intro (fun ht => hcA ?_) (fun ht => hcB ?_)) <;> (first | (simp only [Bool.true_eq_false, Bool.false_eq_true] at ht; done) | ((try simp only [Bool.not_eq_true', Bool.not_eq_false'] at ht); (try simp only [ht]); (try simp only [HTN] at ht); (try (exfalso; omega)))))
    | ((with_reducible refine W_regionI ?_); simp only [List.append_eq, List.cons_append, List.nil_append])
    | (with_reducible refine O_splitG fun cA cB hcA hcB => ?_)
    | (exact hQ2 (by omega))
    | (exact hQ (by omega)))
def numF : Option Int → Int
  | none => 0
  | some c => c
theorem num_C (h : HI I) {e : Option Int} (hQ : Q (.int .i64 (numF e)) S) : C Tryd.prog I 13 #[errW e] S Q := by
  refine C_body (rs := [.tmp 2]) (h.no 13 (by decide)) Tryd.func13 rfl rfl ok13 ?_
  obtain ⟨u22, sz5, u5, u9, u3, u29, u34, u33, sz3, u4, u41, sz66, u46, sz28, u47, u52, sz22, sz62, sz24, sz59, u59, sz60, u60, sz41, sz58, u58, sz73, sz34, sz4, sz9, sz83, u88, sz86, u112, sz118, u118, u2, sz126, u126, u21, sz130, u130, u139, u140, sz141, u141, u145, u148, sz147, u154, u155⟩ := UF
  have ta : ∀ c : Int, atypeAssert Tryd.prog 58 true (.iface 58 (.int .i64 c)) = some (.tuple #[.int .i64 c, .bool true]) := fun c => by kernel_rfl
  have ki : kIface Tryd.prog 24 = true := ki24
  rcases e with _ | c
  · simp only [errW]
    repeat' (first
    | (with_reducible first | refine W_pushC fun K hK => ?_ | refine W_blockI ?_ | refine W_scopeI ?_ | refine W_labelI ?_ | refine W_skipI ?_ | refine W_retI ?_ | refine W_exitI ?_ | refine then_normalI ?_ | refine then_retI ?_ | refine then_exitI ?_ | refine inBlock_normalI ?_ | refine inBlock_retI ?_ | refine inBlock_exitI ?_ | refine inBlock_exitN (by decide) ?_)
    | ((with_reducible first | refine bodyQ_normal0 ?_ | refine bodyQ_normal1 ?_ | refine bodyQ_normal2 ?_ | refine bodyQ_normal3 ?_ | refine bodyQ_normal4 ?_ | refine bodyQ_ret0 ?_ | refine bodyQ_ret1 ?_ | refine bodyQ_ret2 ?_ | refine bodyQ_ret3 ?_ | refine bodyQ_ret4 ?_); (try simp only [EVB, Nat.reduceEqDiff, reduceIte]))
    | (with_reducible refine Cont.use (by assumption) ?_)
    | (with_reducible first | refine hcA ?_ | refine hcB ?_)
    | ((with_reducible first | refine W_condG fun cA cB hcA hcB => ?_ | refine W_regionI ?_ | show O _ _ _ _ _ _ _ _ | show OK _ _ _ _ _ _ _ _ _ | show OKF _ _ _ _ _ _ _ _ _ _ | show OKT _ _ _ _ _ _ _ _ _ _ _ _ | show _ ∧ _ | show CG _ _ _ | show CB _ _ _); simp (disch := first | ((with_reducible show isStop _ = false); rfl) | ((with_reducible show isP _ = true); rfl) | ((with_reducible show (isStop _ || isP _) = false); rfl) | assumption | (simp only [GSB, Nat.reduceEqDiff, reduceIte]; done) | omega | (with_reducible decide) | (simp only [DSB, Go.Proofs.YtdfgdpjlbcnkfaaDoorAbs.oneC, Nat.reduceAdd, Nat.reduceLeDiff] <;> omega) | fail) only [↓DN, ↓reduceIte, UP, CGB, Int.reduceEq, Int.reduceLT, Int.reduceLE, Nat.reduceEqDiff, Nat.reduceAdd, Nat.reduceMul, Nat.reduceSub, Int.reduceToNat, Nat.reduceLeDiff, PF, isStop, isP, goInt, beq_self_eq_true, decide_true, decide_false, Int.toNat_natCast, nn_eq, nn_ne])
    | ((with_reducible refine CB_intro (fun ht => hcA ?_) (fun ht => hcB ?_)) <;> (first | (simp only [Bool.true_eq_false, Bool.false_eq_true] at ht; done) | ((try simp only [Bool.not_eq_true', Bool.not_eq_false'] at ht); (try simp only [ht]); (try simp only [HTN] at ht); (try (exfalso; omega)))))
    | ((with_reducible refine W_regionI ?_); simp only [List.append_eq, List.cons_append, List.nil_append])
    | (with_reducible refine O_splitG fun cA cB hcA hcB => ?_)
    | (exact hQ))
  · simp only [errW]
    repeat' (first
    | (with_reducible first | refine W_pushC fun K hK => ?_ | refine W_blockI ?_ | refine W_scopeI ?_ | refine W_labelI ?_ | refine W_skipI ?_ | refine W_retI ?_ | refine W_exitI ?_ | refine then_normalI ?_ | refine then_retI ?_ | refine then_exitI ?_ | refine inBlock_normalI ?_ | refine inBlock_retI ?_ | refine inBlock_exitI ?_ | refine inBlock_exitN (by decide) ?_)
    | ((with_reducible first | refine bodyQ_normal0 ?_ | refine bodyQ_normal1 ?_ | refine bodyQ_normal2 ?_ | refine bodyQ_normal3 ?_ | refine bodyQ_normal4 ?_ | refine bodyQ_ret0 ?_ | refine bodyQ_ret1 ?_ | refine bodyQ_ret2 ?_ | refine bodyQ_ret3 ?_ | refine bodyQ_ret4 ?_); (try simp only [EVB, Nat.reduceEqDiff, reduceIte]))
    | (with_reducible refine Cont.use (by assumption) ?_)
    | (with_reducible first | refine hcA ?_ | refine hcB ?_)
    | ((with_reducible first | refine W_condG fun cA cB hcA hcB => ?_ | refine W_regionI ?_ | show O _ _ _ _ _ _ _ _ | show OK _ _ _ _ _ _ _ _ _ | show OKF _ _ _ _ _ _ _ _ _ _ | show OKT _ _ _ _ _ _ _ _ _ _ _ _ | show _ ∧ _ | show CG _ _ _ | show CB _ _ _); simp (disch := first | ((with_reducible show isStop _ = false); rfl) | ((with_reducible show isP _ = true); rfl) | ((with_reducible show (isStop _ || isP _) = false); rfl) | assumption | (simp only [GSB, Nat.reduceEqDiff, reduceIte]; done) | omega | (with_reducible decide) | (simp only [DSB, Go.Proofs.YtdfgdpjlbcnkfaaDoorAbs.oneC, Nat.reduceAdd, Nat.reduceLeDiff] <;> omega) | fail) only [↓DN, ↓reduceIte, UP, CGB, Int.reduceEq, Int.reduceLT, Int.reduceLE, Nat.reduceEqDiff, Nat.reduceAdd, Nat.reduceMul, Nat.reduceSub, Int.reduceToNat, Nat.reduceLeDiff, PF, isStop, isP, goInt, beq_self_eq_true, decide_true, decide_false, Int.toNat_natCast, nn_eq, nn_ne, ta])
    | ((with_reducible refine CB_intro (fun ht => hcA ?_) (fun ht => hcB ?_)) <;> (first | (simp only [Bool.true_eq_false, Bool.false_eq_true] at ht; done) | ((try simp only [Bool.not_eq_true', Bool.not_eq_false'] at ht); (try simp only [ht]); (try simp only [HTN] at ht); (try (exfalso; omega)))))
    | ((with_reducible refine W_regionI ?_); simp only [List.append_eq, List.cons_append, List.nil_append])
    | (with_reducible refine O_splitG fun cA cB hcA hcB => ?_)
    | (exact hQ))
theorem twin_C (h : HI I) {v : Value} {xs : List UInt8} (hx : Sl S v xs) (hn : xs.length ≤ 1099511627776)
    (hQ : ∀ v' S', Own 5 1 S' v' xs.length (u8v xs) → Kept S S' none → (∀ i, blkOf v' = some i → S.next ≤ i) → Q v' S') : C Tryd.prog I 16 #[v] S Q := by
  refine C_body (rs := [.tmp 2]) (h.no 16 (by decide)) Tryd.func16 rfl rfl ok16 ?_
  obtain ⟨u22, sz5, u5, u9, u3, u29, u34, u33, sz3, u4, u41, sz66, u46, sz28, u47, u52, sz22, sz62, sz24, sz59, u59, sz60, u60, sz41, sz58, u58, sz73, sz34, sz4, sz9, sz83, u88, sz86, u112, sz118, u118, u2, sz126, u126, u21, sz130, u130, u139, u140, sz141, u141, u145, u148, sz147, u154, u155⟩ := UF
  have hsrc : asrc Tryd.prog S 22 1 v = some (xs.length, u8v xs) := by
    obtain ⟨a, c, rfl, hv0, hv⟩ := hx
    by_cases hne : xs = []
    · subst hne
      rcases a with _ | ⟨b, o, L⟩
      · rw [hv0 rfl]; simp [asrc, u22, u8v]
      · simp [asrc, u22, u8v]
    · obtain ⟨b, o, L, cs, el, own, m, rfl, _, h1, h2, h3, h4⟩ := hv hne
      have hpos : 0 < xs.length := List.length_pos_iff.2 hne
      simp only [asrc, u22]
      rw [if_neg (by omega)]
      have : aread S ⟨b, o, some L⟩ (xs.length * 1) = some (u8v xs) := by
        have hlen := congrArg List.length h3
        simp [u8v] at hlen
        unfold aread
        simp only [h1]
        rw [if_pos ⟨fun q => ⟨(h2 q).1, by have := (h2 q).2; show o + xs.length * 1 ≤ L; omega⟩, by show o + xs.length * 1 ≤ cs.length; omega⟩, Nat.mul_one, h3]
      simp only [this]
      rw [if_pos (u8v_one _)]
  repeat' (first
    | (with_reducible first | refine W_pushC fun K hK => ?_ | refine W_blockI ?_ | refine W_scopeI ?_ | refine W_labelI ?_ | refine W_skipI ?_ | refine W_retI ?_ | refine W_exitI ?_ | refine then_normalI ?_ | refine then_retI ?_ | refine then_exitI ?_ | refine inBlock_normalI ?_ | refine inBlock_retI ?_ | refine inBlock_exitI ?_ | refine inBlock_exitN (by decide) ?_)
    | ((with_reducible first | refine bodyQ_normal0 ?_ | refine bodyQ_normal1 ?_ | refine bodyQ_normal2 ?_ | refine bodyQ_normal3 ?_ | refine bodyQ_normal4 ?_ | refine bodyQ_ret0 ?_ | refine bodyQ_ret1 ?_ | refine bodyQ_ret2 ?_ | refine bodyQ_ret3 ?_ | refine bodyQ_ret4 ?_); (try simp only [EVB, Nat.reduceEqDiff, reduceIte]))
    | (with_reducible refine Cont.use (by assumption) ?_)
    | (with_reducible first | refine hcA ?_ | refine hcB ?_)
    | ((with_reducible first | refine W_condG fun cA cB hcA hcB => ?_ | refine W_regionI ?_ | show O _ _ _ _ _ _ _ _ | show OK _ _ _ _ _ _ _ _ _ | show OKF _ _ _ _ _ _ _ _ _ _ | show OKT _ _ _ _ _ _ _ _ _ _ _ _ | show _ ∧ _ | show CG _ _ _ | show CB _ _ _); simp (disch := first | ((with_reducible show isStop _ = false); rfl) | ((with_reducible show isP _ = true); rfl) | ((with_reducible show (isStop _ || isP _) = false); rfl) | assumption | (simp only [GSB, Nat.reduceEqDiff, reduceIte]; done) | omega | (with_reducible decide) | (simp only [DSB, Go.Proofs.YtdfgdpjlbcnkfaaDoorAbs.oneC, Nat.reduceAdd, Nat.reduceLeDiff] <;> omega) | fail) only [↓DN, ↓reduceIte, UP, CGB, Int.reduceEq, Int.reduceLT, Int.reduceLE, Nat.reduceEqDiff, Nat.reduceAdd, Nat.reduceMul, Nat.reduceSub, Int.reduceToNat, Nat.reduceLeDiff, PF, isStop, isP, goInt, beq_self_eq_true, decide_true, decide_false, Int.toNat_natCast, nn_eq, nn_ne])
    | ((with_reducible refine CB_intro (fun ht => hcA ?_) (fun ht => hcB ?_)) <;> (first | (simp only [Bool.true_eq_false, Bool.false_eq_true] at ht; done) | ((try simp only [Bool.not_eq_true', Bool.not_eq_false'] at ht); (try simp only [ht]); (try simp only [HTN] at ht); (try (exfalso; omega)))))
    | ((with_reducible refine W_regionI ?_); simp only [List.append_eq, List.cons_append, List.nil_append])
    | (with_reducible refine O_splitG fun cA cB hcA hcB => ?_))
  refine O_append (P := Tryd.prog) (elem := 5) (size := 1) (bytes := 1) (n := 0) (m := xs.length) (xs := []) (ys := u8v xs) u22 sz5 by5 ze5 ⟨by decide, by decide, rfl⟩ (by simp only [EVB, Nat.reduceEqDiff, reduceIte]; exact Own.nil _ _ _) (by simp only [EVB, Nat.reduceEqDiff, reduceIte]; exact hsrc) ⟨by simp [u8v], u8v_one _⟩ (by omega) fun v1 S1 hO hKp hB => ?_
  (try simp only [EVB, Nat.reduceEqDiff, reduceIte] at hKp hB)
  rw [Nat.zero_add, List.nil_append] at hO
  have hnew : ∀ i, blkOf v1 = some i → S.next ≤ i := by
    intro i hi
    rcases hB with q | ⟨j, q1, q2⟩
    · rw [q] at hi; cases hi
    · rw [q2] at hi; cases hi; exact q1
  repeat' (first
    | (with_reducible first | refine W_pushC fun K hK => ?_ | refine W_blockI ?_ | refine W_scopeI ?_ | refine W_labelI ?_ | refine W_skipI ?_ | refine W_retI ?_ | refine W_exitI ?_ | refine then_normalI ?_ | refine then_retI ?_ | refine then_exitI ?_ | refine inBlock_normalI ?_ | refine inBlock_retI ?_ | refine inBlock_exitI ?_ | refine inBlock_exitN (by decide) ?_)
    | ((with_reducible first | refine bodyQ_normal0 ?_ | refine bodyQ_normal1 ?_ | refine bodyQ_normal2 ?_ | refine bodyQ_normal3 ?_ | refine bodyQ_normal4 ?_ | refine bodyQ_ret0 ?_ | refine bodyQ_ret1 ?_ | refine bodyQ_ret2 ?_ | refine bodyQ_ret3 ?_ | refine bodyQ_ret4 ?_); (try simp only [EVB, Nat.reduceEqDiff, reduceIte]))
    | (with_reducible refine Cont.use (by assumption) ?_)
    | (with_reducible first | refine hcA ?_ | refine hcB ?_)
    | ((with_reducible first | refine W_condG fun cA cB hcA hcB => ?_ | refine W_regionI ?_ | show O _ _ _ _ _ _ _ _ | show OK _ _ _ _ _ _ _ _ _ | show OKF _ _ _ _ _ _ _ _ _ _ | show OKT _ _ _ _ _ _ _ _ _ _ _ _ | show _ ∧ _ | show CG _ _ _ | show CB _ _ _); simp (disch := first | ((with_reducible show isStop _ = false); rfl) | ((with_reducible show isP _ = true); rfl) | ((with_reducible show (isStop _ || isP _) = false); rfl) | assumption | (simp only [GSB, Nat.reduceEqDiff, reduceIte]; done) | omega | (with_reducible decide) | (simp only [DSB, Go.Proofs.YtdfgdpjlbcnkfaaDoorAbs.oneC, Nat.reduceAdd, Nat.reduceLeDiff] <;> omega) | fail) only [↓DN, ↓reduceIte, UP, CGB, Int.reduceEq, Int.reduceLT, Int.reduceLE, Nat.reduceEqDiff, Nat.reduceAdd, Nat.reduceMul, Nat.reduceSub, Int.reduceToNat, Nat.reduceLeDiff, PF, isStop, isP, goInt, beq_self_eq_true, decide_true, decide_false, Int.toNat_natCast, nn_eq, nn_ne])
    | ((with_reducible refine CB_intro (fun ht => hcA ?_) (fun ht => hcB ?_)) <;> (first | (simp only [Bool.true_eq_false, Bool.false_eq_true] at ht; done) | ((try simp only [Bool.not_eq_true', Bool.not_eq_false'] at ht); (try simp only [ht]); (try simp only [HTN] at ht); (try (exfalso; omega)))))
    | ((with_reducible refine W_regionI ?_); simp only [List.append_eq, List.cons_append, List.nil_append])
    | (with_reducible refine O_splitG fun cA cB hcA hcB => ?_)
    | (exact hQ _ _ hO hKp hnew))
theorem CloneF_C (h : HI I) {v : Value} {xs : List Fld} (hO : Own 66 2 S v xs.length (fldv xs)) (hn : xs.length ≤ 1048576)
    (hQ : ∀ v' S', Own 66 2 S' v' xs.length (fldv xs) → Kept S S' none → (∀ i, blkOf v' = some i → S.next ≤ i) → Q v' S') : C Tryd.prog I 33 #[v] S Q := by
  refine C_body (rs := [.tmp 2]) (h.no 33 (by decide)) Tryd.func33 rfl rfl ok33 ?_
  obtain ⟨u22, sz5, u5, u9, u3, u29, u34, u33, sz3, u4, u41, sz66, u46, sz28, u47, u52, sz22, sz62, sz24, sz59, u59, sz60, u60, sz41, sz58, u58, sz73, sz34, sz4, sz9, sz83, u88, sz86, u112, sz118, u118, u2, sz126, u126, u21, sz130, u130, u139, u140, sz141, u141, u145, u148, sz147, u154, u155⟩ := UF
  by_cases h0 : xs.length = 0
  · have hv : v = .slice none 0 0 := by
      rcases hO.2.2 with ⟨e, _⟩ | ⟨b, m, _, _, _, _, q⟩
      · exact e
      · omega
    subst hv
    repeat' (first
    | (with_reducible first | refine W_pushC fun K hK => ?_ | refine W_blockI ?_ | refine W_scopeI ?_ | refine W_labelI ?_ | refine W_skipI ?_ | refine W_retI ?_ | refine W_exitI ?_ | refine then_normalI ?_ | refine then_retI ?_ | refine then_exitI ?_ | refine inBlock_normalI ?_ | refine inBlock_retI ?_ | refine inBlock_exitI ?_ | refine inBlock_exitN (by decide) ?_)
    | ((with_reducible first | refine bodyQ_normal0 ?_ | refine bodyQ_normal1 ?_ | refine bodyQ_normal2 ?_ | refine bodyQ_normal3 ?_ | refine bodyQ_normal4 ?_ | refine bodyQ_ret0 ?_ | refine bodyQ_ret1 ?_ | refine bodyQ_ret2 ?_ | refine bodyQ_ret3 ?_ | refine bodyQ_ret4 ?_); (try simp only [EVB, Nat.reduceEqDiff, reduceIte]))
    | (with_reducible refine Cont.use (by assumption) ?_)
    | (with_reducible first | refine hcA ?_ | refine hcB ?_)
    | ((with_reducible first | refine W_condG fun cA cB hcA hcB => ?_ | refine W_regionI ?_ | show O _ _ _ _ _ _ _ _ | show OK _ _ _ _ _ _ _ _ _ | show OKF _ _ _ _ _ _ _ _ _ _ | show OKT _ _ _ _ _ _ _ _ _ _ _ _ | show _ ∧ _ | show CG _ _ _ | show CB _ _ _); simp (disch := first | ((with_reducible show isStop _ = false); rfl) | ((with_reducible show isP _ = true); rfl) | ((with_reducible show (isStop _ || isP _) = false); rfl) | assumption | (simp only [GSB, Nat.reduceEqDiff, reduceIte]; done) | omega | (with_reducible decide) | (simp only [DSB, Go.Proofs.YtdfgdpjlbcnkfaaDoorAbs.oneC, Nat.reduceAdd, Nat.reduceLeDiff] <;> omega) | fail) only [↓DN, ↓reduceIte, UP, CGB, Int.reduceEq, Int.reduceLT, Int.reduceLE, Nat.reduceEqDiff, Nat.reduceAdd, Nat.reduceMul, Nat.reduceSub, Int.reduceToNat, Nat.reduceLeDiff, PF, isStop, isP, goInt, beq_self_eq_true, decide_true, decide_false, Int.toNat_natCast, nn_eq, nn_ne, nsl_eq])
    | ((with_reducible refine CB_intro (fun ht => hcA ?_) (fun ht => hcB ?_)) <;> (first | (simp only [Bool.true_eq_false, Bool.false_eq_true] at ht; done) | ((try simp only [Bool.not_eq_true', Bool.not_eq_false'] at ht); (try simp only [ht]); (try simp only [HTN] at ht); (try (exfalso; omega)))))
    | ((with_reducible refine W_regionI ?_); simp only [List.append_eq, List.cons_append, List.nil_append])
    | (with_reducible refine O_splitG fun cA cB hcA hcB => ?_)
    | (exact hQ _ _ hO (Kept.refl _ _) (fun i hi => by cases hi)))
  · obtain ⟨b, m, rfl, h1, h2, h3⟩ := own_some hO (by omega)
    have hp : 0 < xs.length := by omega
    repeat' (first
    | (with_reducible first | refine W_pushC fun K hK => ?_ | refine W_blockI ?_ | refine W_scopeI ?_ | refine W_labelI ?_ | refine W_skipI ?_ | refine W_retI ?_ | refine W_exitI ?_ | refine then_normalI ?_ | refine then_retI ?_ | refine then_exitI ?_ | refine inBlock_normalI ?_ | refine inBlock_retI ?_ | refine inBlock_exitI ?_ | refine inBlock_exitN (by decide) ?_)
    | ((with_reducible first | refine bodyQ_normal0 ?_ | refine bodyQ_normal1 ?_ | refine bodyQ_normal2 ?_ | refine bodyQ_normal3 ?_ | refine bodyQ_normal4 ?_ | refine bodyQ_ret0 ?_ | refine bodyQ_ret1 ?_ | refine bodyQ_ret2 ?_ | refine bodyQ_ret3 ?_ | refine bodyQ_ret4 ?_); (try simp only [EVB, Nat.reduceEqDiff, reduceIte]))
    | (with_reducible refine Cont.use (by assumption) ?_)
    | (with_reducible first | refine hcA ?_ | refine hcB ?_)
    | ((with_reducible first | refine W_condG fun cA cB hcA hcB => ?_ | refine W_regionI ?_ | show O _ _ _ _ _ _ _ _ | show OK _ _ _ _ _ _ _ _ _ | show OKF _ _ _ _ _ _ _ _ _ _ | show OKT _ _ _ _ _ _ _ _ _ _ _ _ | show _ ∧ _ | show CG _ _ _ | show CB _ _ _); simp (disch := first | ((with_reducible show isStop _ = false); rfl) | ((with_reducible show isP _ = true); rfl) | ((with_reducible show (isStop _ || isP _) = false); rfl) | assumption | (simp only [GSB, Nat.reduceEqDiff, reduceIte]; done) | omega | (with_reducible decide) | (simp only [DSB, Go.Proofs.YtdfgdpjlbcnkfaaDoorAbs.oneC, Nat.reduceAdd, Nat.reduceLeDiff] <;> omega) | fail) only [↓DN, ↓reduceIte, UP, CGB, Int.reduceEq, Int.reduceLT, Int.reduceLE, Nat.reduceEqDiff, Nat.reduceAdd, Nat.reduceMul, Nat.reduceSub, Int.reduceToNat, Nat.reduceLeDiff, PF, isStop, isP, goInt, beq_self_eq_true, decide_true, decide_false, Int.toNat_natCast, nn_eq, nn_ne])
    | ((with_reducible refine CB_intro (fun ht => hcA ?_) (fun ht => hcB ?_)) <;> (first | (simp only [Bool.true_eq_false, Bool.false_eq_true] at ht; done) | ((try simp only [Bool.not_eq_true', Bool.not_eq_false'] at ht); (try simp only [ht]); (try simp only [HTN] at ht); (try (exfalso; omega)))))
    | ((with_reducible refine W_regionI ?_); simp only [List.append_eq, List.cons_append, List.nil_append])
    | (with_reducible refine O_splitG fun cA cB hcA hcB => ?_))
    refine O_lit0 (P := Tryd.prog) (elem := 66) (size := 2) (bytes := 32) (m := xs.length) (ys := fldv xs) u41 sz66 by66 ze66 ⟨by decide, by decide, rfl⟩ (by simp only [EVB, Nat.reduceEqDiff, reduceIte]; rfl) (by simp only [EVB, Nat.reduceEqDiff, reduceIte]; exact asrc_own (own_push hO) u41) (by omega) ⟨hO.1, hO.2.1⟩ (by omega) fun v1 S1 hO1 hKp hB => ?_
    repeat' (first
    | (with_reducible first | refine W_pushC fun K hK => ?_ | refine W_blockI ?_ | refine W_scopeI ?_ | refine W_labelI ?_ | refine W_skipI ?_ | refine W_retI ?_ | refine W_exitI ?_ | refine then_normalI ?_ | refine then_retI ?_ | refine then_exitI ?_ | refine inBlock_normalI ?_ | refine inBlock_retI ?_ | refine inBlock_exitI ?_ | refine inBlock_exitN (by decide) ?_)
    | ((with_reducible first | refine bodyQ_normal0 ?_ | refine bodyQ_normal1 ?_ | refine bodyQ_normal2 ?_ | refine bodyQ_normal3 ?_ | refine bodyQ_normal4 ?_ | refine bodyQ_ret0 ?_ | refine bodyQ_ret1 ?_ | refine bodyQ_ret2 ?_ | refine bodyQ_ret3 ?_ | refine bodyQ_ret4 ?_); (try simp only [EVB, Nat.reduceEqDiff, reduceIte]))
    | (with_reducible refine Cont.use (by assumption) ?_)
    | (with_reducible first | refine hcA ?_ | refine hcB ?_)
    | ((with_reducible first | refine W_condG fun cA cB hcA hcB => ?_ | refine W_regionI ?_ | show O _ _ _ _ _ _ _ _ | show OK _ _ _ _ _ _ _ _ _ | show OKF _ _ _ _ _ _ _ _ _ _ | show OKT _ _ _ _ _ _ _ _ _ _ _ _ | show _ ∧ _ | show CG _ _ _ | show CB _ _ _); simp (disch := first | ((with_reducible show isStop _ = false); rfl) | ((with_reducible show isP _ = true); rfl) | ((with_reducible show (isStop _ || isP _) = false); rfl) | assumption | (simp only [GSB, Nat.reduceEqDiff, reduceIte]; done) | omega | (with_reducible decide) | (simp only [DSB, Go.Proofs.YtdfgdpjlbcnkfaaDoorAbs.oneC, Nat.reduceAdd, Nat.reduceLeDiff] <;> omega) | fail) only [↓DN, ↓reduceIte, UP, CGB, Int.reduceEq, Int.reduceLT, Int.reduceLE, Nat.reduceEqDiff, Nat.reduceAdd, Nat.reduceMul, Nat.reduceSub, Int.reduceToNat, Nat.reduceLeDiff, PF, isStop, isP, goInt, beq_self_eq_true, decide_true, decide_false, Int.toNat_natCast, nn_eq, nn_ne])
    | ((with_reducible refine CB_intro (fun ht => hcA ?_) (fun ht => hcB ?_)) <;> (first | (simp only [Bool.true_eq_false, Bool.false_eq_true] at ht; done) | ((try simp only [Bool.not_eq_true', Bool.not_eq_false'] at ht); (try simp only [ht]); (try simp only [HTN] at ht); (try (exfalso; omega)))))
    | ((with_reducible refine W_regionI ?_); simp only [List.append_eq, List.cons_append, List.nil_append])
    | (with_reducible refine O_splitG fun cA cB hcA hcB => ?_)
    | (exact hQ _ _ hO1 ((Kept.push _ none).trans hKp) (fun i hi => Nat.le_trans (Nat.le_succ _) (hB i hi))))
theorem Trailers_C (h : HI I) {b m : Nat} {r : PRd} {tv lv : Value} (hR : Rd S b r tv lv m) (hn : r.trailers.length ≤ 1048576)
    (hQ : ∀ v' S', Own 66 2 S' v' r.trailers.length (fldv r.trailers) → Kept S S' none → (∀ i, blkOf v' = some i → S.next ≤ i) → Q v' S') : C Tryd.prog I 18 #[.pointer (some ⟨b, 0, some 11⟩)] S Q := by
  refine C_body (rs := [.tmp 2]) (h.no 18 (by decide)) Tryd.func18 rfl rfl ok18 ?_
  obtain ⟨la, lc, rfl⟩ := own_slice hR.trl
  have hb := hR.cell; have hm := hR.hm; have hnb := hR.hn
  simp only [CR.as, CR.cells] at hb
  obtain ⟨u22, sz5, u5, u9, u3, u29, u34, u33, sz3, u4, u41, sz66, u46, sz28, u47, u52, sz22, sz62, sz24, sz59, u59, sz60, u60, sz41, sz58, u58, sz73, sz34, sz4, sz9, sz83, u88, sz86, u112, sz118, u118, u2, sz126, u126, u21, sz130, u130, u139, u140, sz141, u141, u145, u148, sz147, u154, u155⟩ := UF
  repeat' (first
    | (with_reducible first | refine W_pushC fun K hK => ?_ | refine W_blockI ?_ | refine W_scopeI ?_ | refine W_labelI ?_ | refine W_skipI ?_ | refine W_retI ?_ | refine W_exitI ?_ | refine then_normalI ?_ | refine then_retI ?_ | refine then_exitI ?_ | refine inBlock_normalI ?_ | refine inBlock_retI ?_ | refine inBlock_exitI ?_ | refine inBlock_exitN (by decide) ?_)
    | ((with_reducible first | refine bodyQ_normal0 ?_ | refine bodyQ_normal1 ?_ | refine bodyQ_normal2 ?_ | refine bodyQ_normal3 ?_ | refine bodyQ_normal4 ?_ | refine bodyQ_ret0 ?_ | refine bodyQ_ret1 ?_ | refine bodyQ_ret2 ?_ | refine bodyQ_ret3 ?_ | refine bodyQ_ret4 ?_); (try simp only [EVB, Nat.reduceEqDiff, reduceIte]))
    | ((with_reducible show C _ _ _ _ _ _); first | (refine CloneF_C h hR.trl hn (fun v' S' h1 h2 h3 => ?_)))
    | (with_reducible refine Cont.use (by assumption) ?_)
    | (with_reducible first | refine hcA ?_ | refine hcB ?_)
    | ((with_reducible first | refine W_condG fun cA cB hcA hcB => ?_ | refine W_regionI ?_ | show O _ _ _ _ _ _ _ _ | show OK _ _ _ _ _ _ _ _ _ | show OKF _ _ _ _ _ _ _ _ _ _ | show OKT _ _ _ _ _ _ _ _ _ _ _ _ | show _ ∧ _ | show CG _ _ _ | show CB _ _ _); simp (disch := first | ((with_reducible show isStop _ = false); rfl) | ((with_reducible show isP _ = true); rfl) | ((with_reducible show (isStop _ || isP _) = false); rfl) | assumption | (simp only [GSB, Nat.reduceEqDiff, reduceIte]; done) | omega | (with_reducible decide) | (simp only [DSB, Go.Proofs.YtdfgdpjlbcnkfaaDoorAbs.oneC, Nat.reduceAdd, Nat.reduceLeDiff] <;> omega) | fail) only [↓DN, ↓reduceIte, UP, CGB, Int.reduceEq, Int.reduceLT, Int.reduceLE, Nat.reduceEqDiff, Nat.reduceAdd, Nat.reduceMul, Nat.reduceSub, Int.reduceToNat, Nat.reduceLeDiff, PF, isStop, isP, goInt, beq_self_eq_true, decide_true, decide_false, Int.toNat_natCast, nn_eq, nn_ne, hb])
    | ((with_reducible refine CB_intro (fun ht => hcA ?_) (fun ht => hcB ?_)) <;> (first | (simp only [Bool.true_eq_false, Bool.false_eq_true] at ht; done) | ((try simp only [Bool.not_eq_true', Bool.not_eq_false'] at ht); (try simp only [ht]); (try simp only [HTN] at ht); (try (exfalso; omega)))))
    | ((with_reducible refine W_regionI ?_); simp only [List.append_eq, List.cons_append, List.nil_append])
    | (with_reducible refine O_splitG fun cA cB hcA hcB => ?_)
    | (exact hQ _ _ h1 h2 h3))
theorem pr_und {P : Program} {t : TypeId} {d : TypeDesc} (h : P.underlying t = some d) : pureRun P (underlying t) = some d := by
  simp [underlying, program, pureRun, pureRun_bind, Bind.bind, Sem.bind, h, pure]
theorem pr_str (n : Nat) (t : TypeId) (a c : ByteArray) (h : Tryd.prog.underlying t = some .string) : pureRun Tryd.prog (Op.equalIn (n + 1) t (.string a) (.string c)) = some (a == c) := by
  rw [Op.equalIn, pureRun_bind, pr_und h]
  rfl
theorem eq66 (a b c d : ByteArray) : pureRun Tryd.prog (Op.equalIn 10000 66 (.agg #[.string a, .string b]) (.agg #[.string c, .string d])) = some ((a == c) && (b == d)) := by
  have hp : Tryd.prog.stoodInHeld 66 = false := by kernel_rfl
  have hpr : pureRun Tryd.prog program = some Tryd.prog := rfl
  have p1 : ∀ a b : ByteArray, pureRun Tryd.prog (part 9 #[Value.string a, Value.string b] 0) = some (.string a) := fun a b => by kernel_rfl
  have p2 : ∀ a b : ByteArray, pureRun Tryd.prog (part 9 #[Value.string a, Value.string b] 1) = some (.string b) := fun a b => by kernel_rfl
  have s1 : ∀ a c : ByteArray, pureRun Tryd.prog (Op.equalIn 9999 9 (.string a) (.string c)) = some (a == c) := fun a c => pr_str 9998 9 a c u9
  rw [show (10000 : Nat) = 9999 + 1 from rfl, Op.equalIn, pureRun_bind, pr_und (by exact Tryd.underlying66)]
  simp only [Option.bind_some]
  rw [pureRun_bind, hpr]
  simp only [Option.bind_some, hp, Bool.false_eq_true, if_false]
  rw [pureRun_bind, ← Array.forIn_toList]
  simp only [List.forIn_cons, List.forIn_nil, pureRun_bind, p1, p2, s1, Option.bind_some, ne_eq, String.reduceEq, not_false_eq_true, if_true]
  cases h1 : (a == c)
  · simp [pureRun_pure, pureRun_bind]
  · cases h2 : (b == d)
    · simp [pureRun_pure, pureRun_bind, p2, s1, h2]
    · simp [pureRun_pure, pureRun_bind, p2, s1, h2]
theorem pr_map {α β : Type} {P : Program} (f : α → β) (e : Sem α) : pureRun P (f <$> e) = (pureRun P e).map f := by
  show pureRun P (e >>= fun a => pure (f a)) = _
  rw [pureRun_bind]
  cases pureRun P e <;> rfl
theorem ne66 (x y : Operand) (a b c d : ByteArray) : binX Tryd.prog .neq 66 x y (.agg #[.string a, .string b]) (.agg #[.string c, .string d]) = some (.bool (!((a == c) && (b == d)))) := by
  have hg : Tryd.prog.eqGuardType Tryd.prog.depth 66 = false := by kernel_rfl
  have hpr : pureRun Tryd.prog program = some Tryd.prog := rfl
  simp [binX, abinOp, anil, scalar, leaf, eqGuard, binOp, Op.equal, Op.maxDepth, pureRun_bind, pureRun_pure, hpr, hg, pr_map, eq66]
theorem fldv_at (xs : List Fld) (i : Nat) (h : i < xs.length) : ((fldv xs).drop (i * 2)).take 2 = [.string (xs[i]).1, .string (xs[i]).2] := by
  induction xs generalizing i with
  | nil => simp at h
  | cons x xs ih =>
    cases i with
    | zero => simp [fldv]
    | succ i =>
      have := ih i (by simpa using h)
      simp only [fldv, List.flatMap_cons] at this ⊢
      rw [show (i + 1) * 2 = 2 + i * 2 by omega, ← List.drop_drop]
      simpa using this
theorem fldv_len (xs : List Fld) : (fldv xs).length = xs.length * 2 := by
  induction xs with
  | nil => rfl
  | cons x xs ih => simp only [fldv, List.flatMap_cons, List.length_append, List.length_cons, List.length_nil] at ih ⊢; omega
end
end Go.Proofs.YtdfgdpjlbcnkfaaDoor.Q
namespace Go.Proofs
open Go.Shelf
open Go.RowKit in
open Go.RowKit in
def Tryd.lays160_ren : Go.Shelf.Ren := ⟨fun | 160 => 55 | 232 => 70 | 231 => 69 | 227 => 71 | 234 => 73 | 233 => 72 | 236 => 75 | 235 => 74 | 228 => 80 | 271 => 83 | 151 => 82 | 197 => 81 | 120 => 92 | 152 => 91 | 260 => 90 | 137 => 68 | 119 => 102 | 224 => 100 | 225 => 103 | 217 => 79 | 266 => 89 | n => n, fun | 9 => 9 | 4 => 4 | 3 => 3 | 5 => 5 | 117 => 119 | 116 => 118 | 0 => 0 | 124 => 122 | 21 => 21 | 105 => 127 | 46 => 29 | 119 => 145 | 139 => 148 | 138 => 147 | n => n, fun | 3 => 3 | 4 => 4 | n => n⟩
theorem Tryd.lays160 : Go.Proofs.Lays.n160 Tryd.prog Tryd.lays160_ren := {
  mixed := by kernel_rfl
  f119 := Tryd.func102.trans (congrArg some (by kernel_rfl))
  f120 := Tryd.func92.trans (congrArg some (by kernel_rfl))
  f137 := Tryd.func68.trans (congrArg some (by kernel_rfl))
  f151 := Tryd.func82.trans (congrArg some (by kernel_rfl))
  f152 := Tryd.func91.trans (congrArg some (by kernel_rfl))
  f160 := Tryd.func55.trans (congrArg some (by kernel_rfl))
  f197 := Tryd.func81.trans (congrArg some (by kernel_rfl))
  f217 := Tryd.func79.trans (congrArg some (by kernel_rfl))
  f224 := Tryd.func100.trans (congrArg some (by kernel_rfl))
  f225 := Tryd.func103.trans (congrArg some (by kernel_rfl))
  f227 := Tryd.func71.trans (congrArg some (by kernel_rfl))
  f228 := Tryd.func80.trans (congrArg some (by kernel_rfl))
  f231 := Tryd.func69.trans (congrArg some (by kernel_rfl))
  f232 := Tryd.func70.trans (congrArg some (by kernel_rfl))
  f233 := Tryd.func72.trans (congrArg some (by kernel_rfl))
  f234 := Tryd.func73.trans (congrArg some (by kernel_rfl))
  f235 := Tryd.func74.trans (congrArg some (by kernel_rfl))
  f236 := Tryd.func75.trans (congrArg some (by kernel_rfl))
  f260 := Tryd.func90.trans (congrArg some (by kernel_rfl))
  f266 := Tryd.func89.trans (congrArg some (by kernel_rfl))
  f271 := Tryd.func83.trans (congrArg some (by kernel_rfl))
  t0 := Tryd.underlying0
  a0 := Tryd.isAgg0
  z0 := Tryd.sizeOf0
  v0 := Tryd.zeroValue0
  t3 := Tryd.underlying3
  a3 := Tryd.isAgg3
  z3 := Tryd.sizeOf3
  v3 := Tryd.zeroValue3
  t4 := Tryd.underlying4
  a4 := Tryd.isAgg4
  z4 := Tryd.sizeOf4
  v4 := Tryd.zeroValue4
  t5 := Tryd.underlying5
  a5 := Tryd.isAgg5
  z5 := Tryd.sizeOf5
  v5 := Tryd.zeroValue5
  t9 := Tryd.underlying9
  a9 := Tryd.isAgg9
  z9 := Tryd.sizeOf9
  v9 := Tryd.zeroValue9
  t21 := Tryd.underlying21
  a21 := Tryd.isAgg21
  z21 := Tryd.sizeOf21
  v21 := Tryd.zeroValue21
  t46 := Tryd.underlying29
  a46 := Tryd.isAgg29
  z46 := Tryd.sizeOf29
  v46 := Tryd.zeroValue29
  t105 := Tryd.underlying127
  a105 := Tryd.isAgg127
  z105 := Tryd.sizeOf127
  v105 := Tryd.zeroValue127
  t116 := Tryd.underlying118
  a116 := Tryd.isAgg118
  z116 := Tryd.sizeOf118
  t117 := Tryd.underlying119
  a117 := Tryd.isAgg119
  z117 := Tryd.sizeOf119
  v117 := Tryd.zeroValue119
  t119 := Tryd.underlying145
  a119 := Tryd.isAgg145
  z119 := Tryd.sizeOf145
  t124 := Tryd.underlying122
  a124 := Tryd.isAgg122
  z124 := Tryd.sizeOf122
  v124 := Tryd.zeroValue122
  t138 := Tryd.underlying147
  a138 := Tryd.isAgg147
  z138 := Tryd.sizeOf147
  v138 := Tryd.zeroValue147
  t139 := Tryd.underlying148
  a139 := Tryd.isAgg148
  z139 := Tryd.sizeOf148
  v139 := Tryd.zeroValue148
  g3 := by kernel_rfl
  g4 := by kernel_rfl }
open Go.RowKit in
def Tryd.lays137_ren : Go.Shelf.Ren := ⟨fun | 137 => 68 | 217 => 79 | 266 => 89 | n => n, fun | 9 => 9 | 5 => 5 | 3 => 3 | n => n, fun | n => n⟩
theorem Tryd.lays137 : Go.Proofs.Lays.n137 Tryd.prog Tryd.lays137_ren := {
  mixed := by kernel_rfl
  f137 := Tryd.func68.trans (congrArg some (by kernel_rfl))
  f217 := Tryd.func79.trans (congrArg some (by kernel_rfl))
  f266 := Tryd.func89.trans (congrArg some (by kernel_rfl))
  t3 := Tryd.underlying3
  a3 := Tryd.isAgg3
  z3 := Tryd.sizeOf3
  v3 := Tryd.zeroValue3
  t5 := Tryd.underlying5
  a5 := Tryd.isAgg5
  z5 := Tryd.sizeOf5
  v5 := Tryd.zeroValue5
  t9 := Tryd.underlying9
  a9 := Tryd.isAgg9
  z9 := Tryd.sizeOf9
  v9 := Tryd.zeroValue9 }
open Go.RowKit in
theorem Tryd.strings_IndexByte (s : ByteArray) (c : Int) (w : World) :
    Calls Tryd.prog 68 #[.string s, .int .u8 c] w fun e w' => e = .returned (.int .i64 (Lib.indexByte s.data.toList c.toNat.toUInt8)) ∧ w' = w := Any.strings_IndexByte Tryd.lays137 s c w
open Go.Lib in
open Go.Lib in
open Go.Lib in
open Go.Lib in
open Go.RowKit Go.Sort Go.Lib in
open Go.RowKit Go.Lib in
open Go.RowKit Go.Lib in
open Go.RowKit Go.Lib in
open Go.RowKit Go.Lib in
open Go.RowKit Go.Lib in
open Go.RowKit Go.Lib in
def Tryd.lays185_ren : Go.Shelf.Ren := ⟨fun | 185 => 88 | 187 => 60 | 115 => 98 | 253 => 99 | 224 => 100 | 254 => 101 | 255 => 78 | 291 => 106 | n => n, fun | 37 => 22 | 3 => 3 | 4 => 4 | 0 => 0 | 5 => 5 | 46 => 29 | 9 => 9 | 146 => 152 | 51 => 140 | n => n, fun | 1 => 1 | n => n⟩
theorem Tryd.lays185 : Go.Proofs.Lays.n185 Tryd.prog Tryd.lays185_ren := {
  mixed := by kernel_rfl
  f115 := Tryd.func98.trans (congrArg some (by kernel_rfl))
  f185 := Tryd.func88.trans (congrArg some (by kernel_rfl))
  f187 := Tryd.func60.trans (congrArg some (by kernel_rfl))
  f224 := Tryd.func100.trans (congrArg some (by kernel_rfl))
  f253 := Tryd.func99.trans (congrArg some (by kernel_rfl))
  f254 := Tryd.func101.trans (congrArg some (by kernel_rfl))
  f255 := Tryd.func78.trans (congrArg some (by kernel_rfl))
  f291 := Tryd.func106.trans (congrArg some (by kernel_rfl))
  t0 := Tryd.underlying0
  a0 := Tryd.isAgg0
  z0 := Tryd.sizeOf0
  v0 := Tryd.zeroValue0
  t3 := Tryd.underlying3
  a3 := Tryd.isAgg3
  z3 := Tryd.sizeOf3
  v3 := Tryd.zeroValue3
  t4 := Tryd.underlying4
  a4 := Tryd.isAgg4
  z4 := Tryd.sizeOf4
  v4 := Tryd.zeroValue4
  t5 := Tryd.underlying5
  a5 := Tryd.isAgg5
  z5 := Tryd.sizeOf5
  v5 := Tryd.zeroValue5
  t9 := Tryd.underlying9
  a9 := Tryd.isAgg9
  z9 := Tryd.sizeOf9
  v9 := Tryd.zeroValue9
  t37 := Tryd.underlying22
  a37 := Tryd.isAgg22
  z37 := Tryd.sizeOf22
  v37 := Tryd.zeroValue22
  t46 := Tryd.underlying29
  a46 := Tryd.isAgg29
  z46 := Tryd.sizeOf29
  v46 := Tryd.zeroValue29
  t51 := Tryd.underlying140
  a51 := Tryd.isAgg140
  z51 := Tryd.sizeOf140
  v51 := Tryd.zeroValue140
  t146 := Tryd.underlying152
  a146 := Tryd.isAgg152
  z146 := Tryd.sizeOf152
  v146 := Tryd.zeroValue152
  g1 := by kernel_rfl }
open Go.RowKit Go.Lib in
open Go.RowKit Go.Lib in
open Go.RowKit Go.Lib in
open Go.RowKit Go.Lib in
open Go.RowKit Go.Lib in
def Tryd.lays187_ren : Go.Shelf.Ren := ⟨fun | 187 => 60 | 255 => 78 | n => n, fun | 37 => 22 | 5 => 5 | 3 => 3 | n => n, fun | n => n⟩
theorem Tryd.lays187 : Go.Proofs.Lays.n187 Tryd.prog Tryd.lays187_ren := {
  mixed := by kernel_rfl
  f187 := Tryd.func60.trans (congrArg some (by kernel_rfl))
  f255 := Tryd.func78.trans (congrArg some (by kernel_rfl))
  t3 := Tryd.underlying3
  a3 := Tryd.isAgg3
  z3 := Tryd.sizeOf3
  v3 := Tryd.zeroValue3
  t5 := Tryd.underlying5
  a5 := Tryd.isAgg5
  z5 := Tryd.sizeOf5
  v5 := Tryd.zeroValue5
  t37 := Tryd.underlying22
  a37 := Tryd.isAgg22
  z37 := Tryd.sizeOf22
  v37 := Tryd.zeroValue22 }
open Go.RowKit Go.Lib in
theorem Tryd.bytes_IndexByte_at (a : Addr) (n c : Nat) (xs : List Int) (cv : Int) (w : World) (hx : xs.length = n) (hc : ∀ i, i < n → w.cell? (a.add i) = some (.int .u8 (xs.getD i 0))) :
    Calls Tryd.prog 60 #[.slice (some a) n c, .int .u8 cv] w fun e w' => e = .returned (.int .i64 (Lib.indexByte (Lib.bytesOf xs) cv.toNat.toUInt8)) ∧ w' = w := Any.bytes_IndexByte_at Tryd.lays187 a n c xs cv w hx hc
open Go.RowKit Go.Lib in
theorem Tryd.bytes_Index_one_at (a : Addr) (n c b2 o2 d : Nat) (xs : List Int) (cv : Int) (w : World) (hx : xs.length = n) (hc : ∀ i, i < n → w.cell? (a.add i) = some (.int .u8 (xs.getD i 0))) (hc2 : w.cell? ⟨b2, o2, none⟩ = some (.int .u8 cv)) :
    Calls Tryd.prog 88 #[.slice (some a) n c, .slice (some ⟨b2, o2, none⟩) 1 d] w fun e w' => e = .returned (.int .i64 (Lib.indexByte (Lib.bytesOf xs) cv.toNat.toUInt8)) ∧ w' = w := Any.bytes_Index_one_at Tryd.lays185 a n c b2 o2 d xs cv w hx hc hc2
open Go.Proofs Go.RowKit Go.Lib in
open Go.Proofs Go.RowKit Go.Lib in
open Go.RowKit Go.Lib in
open Go.RowKit Go.Lib in
open Go.RowKit Go.Lib in
open Go.Proofs Go.RowKit Go.Lib in
open Go.Proofs Go.RowKit Go.Lib in
open Go.Proofs Go.RowKit Go.Lib in
open Go.RowKit Go.Lib in
open Go.RowKit Go.Lib in
theorem Tryd.bytes_IndexByte_nil (cv : Int) (w : World) :
    Calls Tryd.prog 60 #[.slice none 0 0, .int .u8 cv] w fun e w' => e = .returned (.int .i64 (-1)) ∧ w' = w := Any.bytes_IndexByte_nil Tryd.lays187 cv w
end Go.Proofs
namespace Go.Proofs.YtdfgdpjlbcnkfaaDoor.Q
open Go Go.Proofs.YtdfgdpjlbcnkfaaDoorAbs Go.Proofs Go.RowKit
set_option linter.unusedVariables false
set_option linter.unusedSimpArgs false
def nums8 : List Value → Option (List Int)
  | [] => some []
  | .int .u8 n :: r => (nums8 r).map (n :: ·)
  | _ => none
theorem nums8_get : ∀ (cs : List Value) (xs : List Int), nums8 cs = some xs → xs.length = cs.length ∧ ∀ i, i < xs.length → cs[i]? = some (.int .u8 (xs.getD i 0))
  | [], xs, h => by cases h; exact ⟨rfl, fun i hi => by simp at hi⟩
  | c :: cs, xs, h => by
    unfold nums8 at h
    split at h
    · rename_i e; cases e
    · rename_i n r e
      cases e
      obtain ⟨ys, h1, rfl⟩ := Option.map_eq_some_iff.1 h
      obtain ⟨h2, h3⟩ := nums8_get _ ys h1
      refine ⟨by simp [h2], fun i hi => ?_⟩
      cases i with
      | zero => simp
      | succ i => simpa using h3 i (by simpa using hi)
    · cases h
def pIdxS (_ : Nat) (xs : Array Value) (_ : St) : Option Value := match xs with
  | ⟨[.string s, .int .u8 c]⟩ => some (.int .i64 (Lib.indexByte s.data.toList c.toNat.toUInt8))
  | _ => none
theorem still_idxS (k : Nat) : Still Tryd.prog 68 (pIdxS k) := ⟨fun xs S v h ρ w ys hrel hxs => by
  unfold pIdxS at h
  split at h
  case h_2 => cases h
  rename_i s c
  cases h
  obtain ⟨y, ys', hy, h4, h5⟩ := hxs.uncons
  obtain ⟨z, zs', rfl, h6, h7⟩ := h5.uncons
  obtain rfl := h7.of_nil
  obtain rfl := h4.leaf_eq rfl
  obtain rfl := h6.leaf_eq rfl
  obtain rfl : ys = #[.string s, .int .u8 c] := Array.ext' hy
  exact (Tryd.strings_IndexByte s c w).mono fun e w' ⟨h1, h2⟩ => ⟨_, h1, VR.scalar rfl, h2 ▸ Below.refl _ _⟩⟩
def pIdxB (_ : Nat) (xs : Array Value) (S : St) : Option Value := match xs with
  | ⟨[.slice none 0 0, .int .u8 c]⟩ => some (.int .i64 (-1))
  | ⟨[v, .int .u8 c]⟩ => (cellsAt 1 S v).bind fun cs => if cs = [] then none else (nums8 cs).map fun ns => .int .i64 (Lib.indexByte (Lib.bytesOf ns) c.toNat.toUInt8)
  | _ => none
theorem still_idxB (k : Nat) : Still Tryd.prog 60 (pIdxB k) := ⟨fun xs S v h ρ w ys hrel hxs => by
  unfold pIdxB at h
  split at h
  · rename_i c
    cases h
    obtain ⟨y, ys', hy, h4, h5⟩ := hxs.uncons
    obtain ⟨z, zs', rfl, h6, h7⟩ := h5.uncons
    obtain rfl := h7.of_nil
    obtain rfl := h4.leaf_eq rfl
    obtain rfl := h6.leaf_eq rfl
    obtain rfl : ys = #[.slice none 0 0, .int .u8 c] := Array.ext' hy
    exact (Tryd.bytes_IndexByte_nil c w).mono fun e w' ⟨h1, h2⟩ => ⟨_, h1, VR.scalar rfl, h2 ▸ Below.refl _ _⟩
  · rename_i x c _
    obtain ⟨cs, h1, h2⟩ := Option.bind_eq_some_iff.1 h
    split at h2
    · cases h2
    rename_i hne
    obtain ⟨ns, h3, rfl⟩ := Option.map_eq_some_iff.1 h2
    obtain ⟨g1, g2⟩ := nums8_get cs ns h3
    obtain ⟨y, ys', hy, h4, h5⟩ := hxs.uncons
    obtain ⟨z, zs', rfl, h6, h7⟩ := h5.uncons
    obtain rfl := h7.of_nil
    obtain rfl := h6.leaf_eq rfl
    obtain ⟨A, n, C, rfl, k1, k2, k3, _⟩ := cellsAt_sim hrel h4 h1
    obtain rfl : ys = #[.slice A n C, .int .u8 c] := Array.ext' hy
    have hn : n = ns.length := by omega
    subst hn
    have hpos : 0 < ns.length := by
      rcases Nat.eq_zero_or_pos ns.length with e | e
      · exact absurd (List.length_eq_zero_iff.1 (by omega)) hne
      · exact e
    obtain ⟨ad, rfl, _⟩ := k3 0 _ (g2 0 hpos)
    refine (Tryd.bytes_IndexByte_at ad ns.length C ns c w rfl fun i hi => ?_).mono fun e w' ⟨h1, h2⟩ => ⟨_, h1, VR.scalar rfl, h2 ▸ Below.refl _ _⟩
    obtain ⟨ad', e1, e2⟩ := k3 i _ (g2 i hi)
    cases e1
    exact e2
  · cases h⟩
def pIdx1 (_ : Nat) (xs : Array Value) (S : St) : Option Value := match xs with
  | ⟨[v, sep]⟩ => (cellsAt 1 S v).bind fun cs => (cellsAt 1 S sep).bind fun ds => match ds with
    | [.int .u8 c] => if cs = [] then none else (nums8 cs).map fun ns => .int .i64 (Lib.indexByte (Lib.bytesOf ns) c.toNat.toUInt8)
    | _ => none
  | _ => none
theorem still_idx1 (k : Nat) : Still Tryd.prog 88 (pIdx1 k) := ⟨fun xs S v h ρ w ys hrel hxs => by
  unfold pIdx1 at h
  split at h
  case h_2 => cases h
  rename_i x sep
  obtain ⟨cs, h1, h2⟩ := Option.bind_eq_some_iff.1 h
  obtain ⟨ds, h3, h4⟩ := Option.bind_eq_some_iff.1 h2
  split at h4
  case h_2 => cases h4
  rename_i c
  split at h4
  · cases h4
  rename_i hne
  obtain ⟨ns, h5, rfl⟩ := Option.map_eq_some_iff.1 h4
  obtain ⟨g1, g2⟩ := nums8_get cs ns h5
  obtain ⟨y, ys', hy, k4, k5⟩ := hxs.uncons
  obtain ⟨z, zs', rfl, k6, k7⟩ := k5.uncons
  obtain rfl := k7.of_nil
  obtain ⟨A, n, C, rfl, q1, q2, q3, _⟩ := cellsAt_sim hrel k4 h1
  obtain ⟨A2, n2, C2, rfl, r1, r2, r3, _⟩ := cellsAt_sim hrel k6 h3
  obtain rfl : ys = #[.slice A n C, .slice A2 n2 C2] := Array.ext' hy
  have hn : n = ns.length := by omega
  subst hn
  have hn2 : n2 = 1 := by simpa using r2.symm
  subst hn2
  have hpos : 0 < ns.length := by
    rcases Nat.eq_zero_or_pos ns.length with e | e
    · exact absurd (List.length_eq_zero_iff.1 (by omega)) hne
    · exact e
  obtain ⟨ad, rfl, _⟩ := q3 0 _ (g2 0 hpos)
  obtain ⟨ad2, rfl, hc2⟩ := r3 0 _ rfl
  have hsp : ad2.spot = none := by
    unfold World.cell? at hc2
    split at hc2
    · rename_i hh
      simp only [Addr.add] at hc2
      cases hs : ad2.spot with
      | none => rfl
      | some s => simp [hs] at hc2
    · cases hc2
  obtain ⟨b2, o2, s2⟩ := ad2
  simp only at hsp
  subst hsp
  have hc2' : w.cell? ⟨b2, o2, none⟩ = some (.int .u8 c) := by simpa [Addr.add] using hc2
  refine (Tryd.bytes_Index_one_at ad ns.length C b2 o2 C2 ns c w rfl (fun i hi => ?_) hc2').mono fun e w' ⟨h1, h2⟩ => ⟨_, h1, VR.scalar rfl, h2 ▸ Below.refl _ _⟩
  obtain ⟨ad', e1, e2⟩ := q3 i _ (g2 i hi)
  cases e1
  exact e2⟩
def pTrim (_ : Nat) (xs : Array Value) (_ : St) : Option Value := match xs with
  | ⟨[.string s, .string c]⟩ => if s.size ≤ 9223372036854775807 ∧ c = ⟨#[32, 9]⟩ then some (.string (trimB s)) else none
  | _ => none
theorem still_trim (k : Nat) : Still Tryd.prog 55 (pTrim k) := ⟨fun xs S v h ρ w ys hrel hxs => by
  unfold pTrim at h
  split at h
  case h_2 => cases h
  rename_i s c
  split at h
  case isFalse => cases h
  rename_i hc
  obtain ⟨hs, rfl⟩ := hc
  cases h
  obtain ⟨y, ys', hy, h4, h5⟩ := hxs.uncons
  obtain ⟨z, zs', rfl, h6, h7⟩ := h5.uncons
  obtain rfl := h7.of_nil
  obtain rfl := h4.leaf_eq rfl
  obtain rfl := h6.leaf_eq rfl
  obtain rfl : ys = #[.string s, .string ⟨#[32, 9]⟩] := Array.ext' hy
  refine (Any.strings_Trim_laid Tryd.lays160 (by kernel_rfl) s ⟨#[32, 9]⟩ w hs (by decide) (Go.Proofs.ascii_of_all (by decide))).mono ?_
  rintro e w' ⟨rfl, hb⟩
  exact ⟨_, rfl, VR.scalar rfl, hb⟩⟩
def primL : List (FuncId × (Nat → Array Value → St → Option Value)) := [(68, pIdxS), (60, pIdxB), (88, pIdx1), (55, pTrim)]
def prims0 : Prims := stills primL
theorem prims0_sim : PrimSim Tryd.prog prims0 := stills_sim fun x hx k => by
  simp only [primL, List.mem_cons, List.not_mem_nil, or_false] at hx
  rcases hx with rfl | rfl | rfl | rfl
  · exact still_idxS k
  · exact still_idxB k
  · exact still_idx1 k
  · exact still_trim k
end Go.Proofs.YtdfgdpjlbcnkfaaDoor.Q
namespace Go.Proofs.YtdfgdpjlbcnkfaaDoor.Q
open Go Go.Proofs.YtdfgdpjlbcnkfaaDoorAbs Go.Proofs Go.RowKit
set_option linter.unusedVariables false
set_option linter.unusedSimpArgs false
set_option maxRecDepth 1000000
theorem nglob : Tryd.prog.globals.size = 7 := by kernel_rfl
def tab64 : List Value := [0, 1, 56, 2, 57, 49, 28, 3, 61, 58, 42, 50, 38, 29, 17, 4, 62, 47, 59, 36, 45, 43, 51, 22, 53, 39, 33, 30, 24, 18, 12, 5, 63, 55, 48, 27, 60, 41, 37, 16, 46, 35, 44, 21, 52, 32, 23, 11, 54, 26, 40, 15, 34, 20, 31, 10, 25, 14, 19, 9, 13, 8, 7, 6].map (Value.int .u8)
def gl64 : Nat → Option (List Value) := fun | 6 => some tab64 | _ => none
def isTrue (r : Option (Value × St)) : Bool := match r with | some (.bool true, _) => true | _ => false
theorem works_run : isTrue (acall Tryd.prog prims0 60 14 #[] (St.start 7 gl64)) = true := by kernel_rfl
end Go.Proofs.YtdfgdpjlbcnkfaaDoor.Q
namespace Go.Proofs.YtdfgdpjlbcnkfaaDoor.Q
open Go Go.Proofs.YtdfgdpjlbcnkfaaDoorAbs Go.Proofs
set_option linter.unusedVariables false
set_option linter.unusedSimpArgs false
set_option maxRecDepth 100000
set_option maxHeartbeats 4000000
attribute [local irreducible] Go.Proofs.YtdfgdpjlbcnkfaaDoorAbs.O Go.Proofs.YtdfgdpjlbcnkfaaDoorAbs.W Go.Proofs.YtdfgdpjlbcnkfaaDoorAbs.C Go.Proofs.YtdfgdpjlbcnkfaaDoorAbs.OK Go.Proofs.YtdfgdpjlbcnkfaaDoorAbs.OKF Go.Proofs.YtdfgdpjlbcnkfaaDoorAbs.OKT Go.Proofs.YtdfgdpjlbcnkfaaDoorAbs.then_ Go.Proofs.YtdfgdpjlbcnkfaaDoorAbs.inBlock_ Go.Proofs.YtdfgdpjlbcnkfaaDoorAbs.bodyQ Go.Proofs.YtdfgdpjlbcnkfaaDoorAbs.Cont
section
variable {I : Prims} {S : St} {Q : Value → St → Prop}
theorem feed_append : ∀ (xs ys : List UInt8) (r : PRd), feedF r (xs ++ ys) = if (feedF r xs).1 < xs.length then feedF r xs else
    (xs.length + (feedF (feedF r xs).2.2 ys).1, (feedF r xs).2.1 ++ (feedF (feedF r xs).2.2 ys).2.1, (feedF (feedF r xs).2.2 ys).2.2)
  | [], ys, r => by simp [feedF]
  | c :: l, ys, r => by
    rw [List.cons_append]
    by_cases h : r.err ≠ none ∨ r.state = 8
    · unfold feedF
      rw [if_pos h, if_pos h]
      simp
    · have ih := feed_append l ys (byteF r c)
      have e1 : feedF r (c :: (l ++ ys)) = ((feedF (byteF r c) (l ++ ys)).1 + 1, outF r c ++ (feedF (byteF r c) (l ++ ys)).2.1, (feedF (byteF r c) (l ++ ys)).2.2) := by
        conv => lhs; unfold feedF
        rw [if_neg h]
      have e2 : feedF r (c :: l) = ((feedF (byteF r c) l).1 + 1, outF r c ++ (feedF (byteF r c) l).2.1, (feedF (byteF r c) l).2.2) := by
        conv => lhs; unfold feedF
        rw [if_neg h]
      rw [e1, e2, ih]
      simp only [List.length_cons]
      by_cases hl : (feedF (byteF r c) l).1 < l.length
      · rw [if_pos hl, if_pos (by omega)]
      · rw [if_neg hl, if_neg (by omega)]
        simp only [List.append_assoc, Prod.mk.injEq, and_true]
        omega
theorem conv_any {v : Value} {xs : List UInt8} (hO : Own 5 1 S v xs.length (u8v xs)) : alt (aconvert Tryd.prog S 22 9 v) (lift S (cvX Tryd.prog 22 9 v)) = some (.string ⟨xs.toArray⟩, S) := by
  rcases hO.2.2 with ⟨rfl, h0⟩ | ⟨b, m, rfl, h1, h2, h3, h4⟩
  · have : xs = [] := List.length_eq_zero_iff.1 h0
    subst this
    have e1 : aconvert Tryd.prog S 22 9 (.slice none 0 0) = none := by simp [aconvert, u22, u9]
    have e2 : cvX Tryd.prog 22 9 (.slice none 0 0) = some (.string ⟨#[]⟩) := by kernel_rfl
    rw [e1, e2]
    rfl
  · have hl : (u8v xs).length = xs.length := by simp [u8v]
    rw [hl] at h2 ⊢
    rw [conv_own (o := 0) (k := xs.length) h1 h2 (by omega)]
    simp [alt]
end
end Go.Proofs.YtdfgdpjlbcnkfaaDoor.Q
namespace Go.Proofs.YtdfgdpjlbcnkfaaDoor.Q
open Go Go.Proofs.YtdfgdpjlbcnkfaaDoorAbs Go.Proofs
set_option linter.unusedVariables false
set_option linter.unusedSimpArgs false
set_option maxRecDepth 100000
set_option maxHeartbeats 4000000
attribute [local irreducible] Go.Proofs.YtdfgdpjlbcnkfaaDoorAbs.O Go.Proofs.YtdfgdpjlbcnkfaaDoorAbs.W Go.Proofs.YtdfgdpjlbcnkfaaDoorAbs.C Go.Proofs.YtdfgdpjlbcnkfaaDoorAbs.OK Go.Proofs.YtdfgdpjlbcnkfaaDoorAbs.OKF Go.Proofs.YtdfgdpjlbcnkfaaDoorAbs.OKT Go.Proofs.YtdfgdpjlbcnkfaaDoorAbs.then_ Go.Proofs.YtdfgdpjlbcnkfaaDoorAbs.inBlock_ Go.Proofs.YtdfgdpjlbcnkfaaDoorAbs.bodyQ Go.Proofs.YtdfgdpjlbcnkfaaDoorAbs.Cont
section
variable {I : Prims} {S : St} {Q : Value → St → Prop}
end
end Go.Proofs.YtdfgdpjlbcnkfaaDoor.Q
namespace Go.Proofs.YtdfgdpjlbcnkfaaDoor.Q
open Go Go.Proofs.YtdfgdpjlbcnkfaaDoorAbs Go.Proofs
set_option linter.unusedVariables false
set_option linter.unusedSimpArgs false
set_option maxRecDepth 100000
set_option maxHeartbeats 4000000
attribute [local irreducible] Go.Proofs.YtdfgdpjlbcnkfaaDoorAbs.O Go.Proofs.YtdfgdpjlbcnkfaaDoorAbs.W Go.Proofs.YtdfgdpjlbcnkfaaDoorAbs.C Go.Proofs.YtdfgdpjlbcnkfaaDoorAbs.OK Go.Proofs.YtdfgdpjlbcnkfaaDoorAbs.OKF Go.Proofs.YtdfgdpjlbcnkfaaDoorAbs.OKT Go.Proofs.YtdfgdpjlbcnkfaaDoorAbs.then_ Go.Proofs.YtdfgdpjlbcnkfaaDoorAbs.inBlock_ Go.Proofs.YtdfgdpjlbcnkfaaDoorAbs.bodyQ Go.Proofs.YtdfgdpjlbcnkfaaDoorAbs.Cont
section
variable {I : Prims} {S : St} {Q : Value → St → Prop}
theorem mv_base {Sa Sb : St} {b : Nat} {tv lv tv' lv' : Value} (h : Mv Sa Sb b tv lv tv' lv') (k : Kept S Sa none) (hb : S.next ≤ b) (ht : ∀ i, blkOf tv = some i → S.next ≤ i) (hl : ∀ i, blkOf lv = some i → S.next ≤ i) :
    Kept S Sb none ∧ (∀ i, blkOf tv' = some i → S.next ≤ i) ∧ (∀ i, blkOf lv' = some i → S.next ≤ i) :=
  ⟨⟨Nat.le_trans k.1 h.next, fun i hi _ => (h.keep i (Nat.lt_of_lt_of_le hi k.1) (by omega) (fun e => by have := ht i e; omega) (fun e => by have := hl i e; omega)).trans (k.2 i hi (by simp))⟩,
    fun i hi => (h.t i hi).elim (ht i) (fun q => Nat.le_trans k.1 q), fun i hi => (h.l i hi).elim (hl i) (fun q => Nat.le_trans k.1 q)⟩
end
end Go.Proofs.YtdfgdpjlbcnkfaaDoor.Q
namespace Go.Proofs.YtdfgdpjlbcnkfaaDoor.Q
open Go Go.Proofs.YtdfgdpjlbcnkfaaDoorAbs Go.Proofs
set_option linter.unusedVariables false
set_option linter.unusedSimpArgs false
set_option maxRecDepth 100000
set_option maxHeartbeats 4000000
attribute [local irreducible] Go.Proofs.YtdfgdpjlbcnkfaaDoorAbs.O Go.Proofs.YtdfgdpjlbcnkfaaDoorAbs.W Go.Proofs.YtdfgdpjlbcnkfaaDoorAbs.C Go.Proofs.YtdfgdpjlbcnkfaaDoorAbs.OK Go.Proofs.YtdfgdpjlbcnkfaaDoorAbs.OKF Go.Proofs.YtdfgdpjlbcnkfaaDoorAbs.OKT Go.Proofs.YtdfgdpjlbcnkfaaDoorAbs.then_ Go.Proofs.YtdfgdpjlbcnkfaaDoorAbs.inBlock_ Go.Proofs.YtdfgdpjlbcnkfaaDoorAbs.bodyQ Go.Proofs.YtdfgdpjlbcnkfaaDoorAbs.Cont
structure HW (I : Prims) : Prop extends HI I where
  works : ∀ (S : St) (Q : Value → St → Prop), S.get 6 = some ⟨tab64, 0, false, 0⟩ → Q (.bool true) S → C Tryd.prog I 14 #[] S Q
section
variable {I : Prims} {S : St} {Q : Value → St → Prop}
theorem fresh_inv {most : Int} (h0 : ¬ (most < 0 ∨ 1099511627776 < most)) : RInv (CR.fresh [] [] most) :=
  ⟨by simp only [CR.fresh]; omega, by simp only [CR.fresh]; omega, by simp [CR.fresh], by simp [CR.fresh], by simp [CR.fresh], by simp [CR.fresh], by simp [CR.fresh], by simp [CR.fresh], by simp [CR.fresh], by simp [CR.fresh], by simp [CR.fresh]⟩
theorem fresh_rd {S : St} {b : Nat} {most : Int} (hb : S.get b = some ⟨(CR.fresh (.slice none 0 0) (.slice none 0 0) most).cells, 62, true, 0⟩) (hn : b < S.next) : Rd S b (CR.fresh [] [] most) (.slice none 0 0) (.slice none 0 0) 0 :=
  ⟨hb, Nat.zero_le _, hn, Own.nil _ _ _, Own.nil _ _ _, by simp [blkOf], by simp [blkOf], .inl rfl⟩
theorem sl_own {S : St} {v : Value} {xs : List UInt8} (h : Own 5 1 S v xs.length (u8v xs)) : Sl S v xs := by
  have hl : (u8v xs).length = xs.length := by simp [u8v]
  rcases h.2.2 with ⟨rfl, h0⟩ | ⟨b, m, rfl, h1, h2, h3, h4⟩
  · exact ⟨none, 0, by rw [h0], fun _ => rfl, fun q => absurd (List.length_eq_zero_iff.1 h0) q⟩
  · rw [hl] at h2 ⊢
    exact ⟨_, _, rfl, fun q => (by cases q), fun _ => ⟨b, 0, xs.length, u8v xs, 5, true, m, rfl, .inl rfl, h1, fun _ => ⟨h2, by omega⟩, by rw [List.drop_zero, ← hl, List.take_length], h3⟩⟩
end
end Go.Proofs.YtdfgdpjlbcnkfaaDoor.Q
namespace Go.Proofs.YtdfgdpjlbcnkfaaDoor.Q
open Go Go.Proofs.YtdfgdpjlbcnkfaaDoorAbs Go.Proofs
set_option linter.unusedVariables false
set_option linter.unusedSimpArgs false
def hexD (d : Nat) : UInt8 := if d < 10 then (48 + d).toUInt8 else (87 + d).toUInt8
def hexL (n : Nat) : List UInt8 := if n = 0 then [] else hexL (n / 16) ++ [hexD (n % 16)]
  termination_by n
  decreasing_by omega
def encB (b : List UInt8) : List UInt8 := if b = [] then [] else hexL b.length ++ [13, 10] ++ b ++ [13, 10]
theorem hexL_zero : hexL 0 = [] := by rw [hexL]; simp
theorem hexL_pos {n : Nat} (h : 0 < n) : hexL n = hexL (n / 16) ++ [hexD (n % 16)] := by rw [hexL, if_neg (by omega)]
theorem hexL_len : ∀ (k n : Nat), n < 16 ^ k → (hexL n).length ≤ k
  | 0, n, h => by have : n = 0 := by simpa using h
                  subst this; rw [hexL_zero]; exact Nat.le_refl _
  | k + 1, n, h => by
    by_cases h0 : n = 0
    · subst h0; rw [hexL_zero]; exact Nat.zero_le _
    · rw [hexL_pos (by omega), List.length_append]
      have := hexL_len k (n / 16) (by rw [Nat.pow_succ] at h; exact Nat.div_lt_of_lt_mul (by omega))
      simp; exact this
theorem hexL_ne {n : Nat} (h : 0 < n) : 0 < (hexL n).length := by rw [hexL_pos h]; simp
theorem hexF_hexD : ∀ d : Nat, d < 16 → hexF ((hexD d).toNat : Int) = ((d : Int), true) := by decide
theorem u64_or (a d : Nat) (ha : a < 72057594037927936) (hd : d < 16) : IntKind.u64.wrap (BitVec.ofInt IntKind.u64.bits (IntKind.u64.wrap ((a : Int) * 2 ^ (min (4 : Int).toNat IntKind.u64.bits))) ||| BitVec.ofInt IntKind.u64.bits (IntKind.u64.wrap (d : Int))).toNat = ((a * 16 + d : Nat) : Int) := by
  have e1 : IntKind.u64.wrap ((a : Int) * 2 ^ (min (4 : Int).toNat IntKind.u64.bits)) = ((a * 16 : Nat) : Int) := by
    rw [show (min (4 : Int).toNat IntKind.u64.bits) = 4 from rfl, Go.Proofs.YtdfgdpjlbcnkfaaDoorAbs.wpu64 (by omega) (by omega)]; omega
  have e2 : IntKind.u64.wrap (d : Int) = (d : Int) := Go.Proofs.YtdfgdpjlbcnkfaaDoorAbs.wpu64 (by omega) (by omega)
  rw [e1, e2]
  have e3 : (BitVec.ofInt IntKind.u64.bits ((a * 16 : Nat) : Int) ||| BitVec.ofInt IntKind.u64.bits (d : Int)).toNat = a * 16 + d := by
    rw [BitVec.ofInt_natCast, BitVec.ofInt_natCast, BitVec.toNat_or, BitVec.toNat_ofNat, BitVec.toNat_ofNat]
    rw [show (2 : Nat) ^ IntKind.u64.bits = 18446744073709551616 from rfl, Nat.mod_eq_of_lt (by omega), Nat.mod_eq_of_lt (by omega)]
    have := Nat.two_pow_add_eq_or_of_lt (i := 4) (b := d) (by omega) a
    rw [show (2 : Nat) ^ 4 = 16 from rfl, Nat.mul_comm 16 a] at this
    exact this.symm
  rw [e3, Go.Proofs.YtdfgdpjlbcnkfaaDoorAbs.wpu64 (by omega) (by omega)]
theorem feed_go {r r1 : PRd} {xs ys out : List UInt8} (h : feedF r xs = (xs.length, out, r1)) : feedF r (xs ++ ys) = (xs.length + (feedF r1 ys).1, out ++ (feedF r1 ys).2.1, (feedF r1 ys).2.2) := by
  rw [feed_append, h, if_neg (Nat.lt_irrefl _)]
theorem feed_cons {r : PRd} {c : UInt8} {l : List UInt8} (he : r.err = none) (hs : r.state ≠ 8) : feedF r (c :: l) = ((feedF (byteF r c) l).1 + 1, outF r c ++ (feedF (byteF r c) l).2.1, (feedF (byteF r c) l).2.2) := by
  rw [feedF, if_neg (by simp [he, hs])]
theorem feed_one {r : PRd} {c : UInt8} (he : r.err = none) (hs : r.state ≠ 8) (h3 : r.state ≠ 3) : feedF r [c] = (1, [], stepF r c) := by
  rw [feed_cons he hs]; simp [feedF, outF, h3, byteF]
def CR.at (most len sum : Int) (t : List Fld) : PRd := ⟨most, len, 0, none, 0, 0, false, 0, [], sum, t⟩
theorem hex_feed (most len sum : Int) (t : List Fld) : ∀ n : Nat, n < 1152921504606846976 → feedF (CR.at most len sum t) (hexL n) = ((hexL n).length, [], ⟨most, len, 0, none, (hexL n).length, n, false, 0, [], sum, t⟩) := by
  intro n
  induction n using Nat.strongRecOn with
  | _ n ih =>
    intro hn
    by_cases h0 : n = 0
    · subst h0; rw [hexL_zero]; rfl
    · have h1 := ih (n / 16) (by omega) (by omega)
      have hl := hexL_len 14 (n / 16) (by rw [show (16 : Nat) ^ 14 = 72057594037927936 from rfl]; omega)
      rw [hexL_pos (by omega), feed_go h1]
      generalize hexL (n / 16) = L at *
      rw [feed_one rfl (by simp) (by simp)]
      have e1 := hexF_hexD (n % 16) (by omega)
      have e2 := u64_or (n / 16) (n % 16) (by omega) (by omega)
      have e3 : (((n / 16 : Nat) : Int)).fdiv (2 ^ (min (60 : Int).toNat IntKind.u64.bits)) = 0 := by
        rw [show (min (60 : Int).toNat IntKind.u64.bits) = 60 from rfl]
        rw [Int.fdiv_eq_ediv_of_nonneg _ (by decide)]
        exact Int.ediv_eq_zero_of_lt (by omega) (by have : (2 : Int) ^ 60 = 1152921504606846976 := rfl
                                                    omega)
      have e4 : IntKind.i64.wrap ((L.length : Int) + 1) = ((L.length + 1 : Nat) : Int) := by rw [Go.Proofs.YtdfgdpjlbcnkfaaDoorAbs.wp64 (by omega) (by omega)]; omega
      have e5 : n / 16 * 16 + n % 16 = n := by omega
      rw [e5] at e2
      have hs : stepF (⟨most, len, 0, none, (L.length : Int), ((n / 16 : Nat) : Int), false, 0, [], sum, t⟩ : PRd) (hexD (n % 16)) = ⟨most, len, 0, none, ((L.length + 1 : Nat) : Int), (n : Int), false, 0, [], sum, t⟩ := by
        have hlt : (L.length : Int) < 16 := by omega
        simp only [stepF, if_true, sizeF, e1, true_and, if_pos hlt, e2, e3, e4, decide_true, Bool.not_true, Bool.or_false]
      rw [hs]
      simp
theorem step_size13 (most len sum dg lf : Int) (t : List Fld) (hd : dg ≠ 0) (h16 : dg ≤ 16) : stepF (⟨most, len, 0, none, dg, lf, false, 0, [], sum, t⟩ : PRd) 13 = ⟨most, len, 2, none, dg, lf, false, 0, [], sum, t⟩ := by
  have e : hexF (((13 : UInt8).toNat : Nat) : Int) = (0, false) := by decide
  have e13 : (((13 : UInt8).toNat : Nat) : Int) = 13 := rfl
  have e' : hexF 13 = (0, false) := by decide
  simp only [stepF, if_true, sizeF, e, e13]
  simp [hd, e']
theorem step_beg (most len sum dg : Int) (n : Nat) (t : List Fld) (h0 : 0 ≤ len) (h1 : len ≤ most) (h2 : most ≤ 1099511627776) : stepF (⟨most, len, 2, none, dg, n, false, 0, [], sum, t⟩ : PRd) 10 =
    if most - len < n then ⟨most, len, 2, some 33, dg, n, false, 0, [], sum, t⟩ else if n = 0 then ⟨most, len, 6, none, dg, n, false, 0, [], sum, t⟩ else ⟨most, len, 3, none, dg, n, false, 0, [], sum, t⟩ := by
  have w : IntKind.u64.wrap (IntKind.i64.wrap (most - len)) = most - len := by rw [Go.Proofs.YtdfgdpjlbcnkfaaDoorAbs.wp64 (by omega) (by omega), Go.Proofs.YtdfgdpjlbcnkfaaDoorAbs.wpu64 (by omega) (by omega)]
  have e10 : (((10 : UInt8).toNat : Nat) : Int) = 10 := rfl
  simp only [stepF, begF, w, e10]
  simp
theorem chunk_feed {most len sum : Int} {t : List Fld} (b rest : List UInt8) (h0 : 0 ≤ len) (h2 : most ≤ 1099511627776) (hb : len + b.length ≤ most) :
    feedF (CR.at most len sum t) (encB b ++ rest) = ((encB b).length + (feedF (CR.at most (len + b.length) sum t) rest).1, b ++ (feedF (CR.at most (len + b.length) sum t) rest).2.1, (feedF (CR.at most (len + b.length) sum t) rest).2.2) := by
  by_cases hne : b = []
  · subst hne; simp [encB]
  have hl : 0 < b.length := List.length_pos_iff.2 hne
  have a1 := hex_feed most len sum t b.length (by omega)
  have d1 := hexL_ne hl
  have d2 := hexL_len 15 b.length (by rw [show (16 : Nat) ^ 15 = 1152921504606846976 from rfl]; omega)
  have a2 : feedF (⟨most, len, 0, none, (hexL b.length).length, b.length, false, 0, [], sum, t⟩ : PRd) [13, 10] = ([13, 10].length, [], ⟨most, len, 3, none, (hexL b.length).length, b.length, false, 0, [], sum, t⟩) := by
    rw [show ([13, 10] : List UInt8) = [13] ++ [10] from rfl, feed_go (r1 := ⟨most, len, 2, none, (hexL b.length).length, b.length, false, 0, [], sum, t⟩) (out := []) ?_]
    · rw [feed_one rfl (by simp) (by simp), step_beg _ _ _ _ _ _ h0 (by omega) h2, if_neg (by omega), if_neg (by omega)]; rfl
    · rw [feed_one rfl (by simp) (by simp), step_size13 _ _ _ _ _ _ (by omega) (by omega)]; rfl
  have a3 : feedF (⟨most, len, 3, none, (hexL b.length).length, b.length, false, 0, [], sum, t⟩ : PRd) b = (b.length, b, ⟨most, len + b.length, 4, none, (hexL b.length).length, 0, false, 0, [], sum, t⟩) := by
    have := feed_data (⟨most, len, 3, none, (hexL b.length).length, b.length, false, 0, [], sum, t⟩ : PRd) rfl rfl b [] hne (Int.le_refl _)
    rw [List.append_nil] at this
    rw [this]
    simp [dataF, feedF]
  have a4 : feedF (⟨most, len + b.length, 4, none, (hexL b.length).length, 0, false, 0, [], sum, t⟩ : PRd) [13, 10] = ([13, 10].length, [], CR.at most (len + b.length) sum t) := by
    rw [show ([13, 10] : List UInt8) = [13] ++ [10] from rfl, feed_go (r1 := ⟨most, len + b.length, 5, none, (hexL b.length).length, 0, false, 0, [], sum, t⟩) (out := []) ?_]
    · rw [feed_one rfl (by simp) (by simp)]; rfl
    · rw [feed_one rfl (by simp) (by simp)]; rfl
  have e : encB b ++ rest = hexL b.length ++ ([13, 10] ++ (b ++ ([13, 10] ++ rest))) := by simp [encB, hne]
  rw [e, feed_go a1, feed_go a2, feed_go a3, feed_go a4]
  simp only [encB, if_neg hne, List.length_append, List.nil_append, List.append_assoc]
  refine Prod.ext ?_ rfl
  simp only [List.length_append, List.length_cons, List.length_nil]
  omega
theorem chunk_over {most len sum : Int} {t : List Fld} (b rest : List UInt8) (h0 : 0 ≤ len) (h1 : len ≤ most) (h2 : most ≤ 1099511627776) (hb : most < len + b.length) (hbn : b.length < 1152921504606846976) :
    (feedF (CR.at most len sum t) (encB b ++ rest)).2.1 = [] ∧ (feedF (CR.at most len sum t) (encB b ++ rest)).2.2.err = some 33 ∧ (feedF (CR.at most len sum t) (encB b ++ rest)).2.2.state = 2 := by
  have hl : 0 < b.length := by omega
  have hne : b ≠ [] := List.length_pos_iff.1 hl
  have a1 := hex_feed most len sum t b.length (by omega)
  have d1 := hexL_ne hl
  have d2 := hexL_len 15 b.length (by rw [show (16 : Nat) ^ 15 = 1152921504606846976 from rfl]; omega)
  have a2 : feedF (⟨most, len, 0, none, (hexL b.length).length, b.length, false, 0, [], sum, t⟩ : PRd) [13, 10] = ([13, 10].length, [], ⟨most, len, 2, some 33, (hexL b.length).length, b.length, false, 0, [], sum, t⟩) := by
    rw [show ([13, 10] : List UInt8) = [13] ++ [10] from rfl, feed_go (r1 := ⟨most, len, 2, none, (hexL b.length).length, b.length, false, 0, [], sum, t⟩) (out := []) ?_]
    · rw [feed_one rfl (by simp) (by simp), step_beg _ _ _ _ _ _ h0 (by omega) h2, if_pos (by omega)]; rfl
    · rw [feed_one rfl (by simp) (by simp), step_size13 _ _ _ _ _ _ (by omega) (by omega)]; rfl
  have e : encB b ++ rest = hexL b.length ++ ([13, 10] ++ (b ++ ([13, 10] ++ rest))) := by simp [encB, hne]
  rw [e, feed_go a1, feed_go a2, feed_stop _ _ (.inr (.inl (by simp)))]
  exact ⟨rfl, rfl, rfl⟩
end Go.Proofs.YtdfgdpjlbcnkfaaDoor.Q
set_option linter.unusedVariables false
set_option linter.unusedSimpArgs false
namespace Go.Proofs.YtdfgdpjlbcnkfaaDoorAbs
section
variable {P : Program} {e : Env} {S : St} {R : Value → St → Prop}
end
set_option linter.defProp false
end Go.Proofs.YtdfgdpjlbcnkfaaDoorAbs
namespace Go.Proofs.YtdfgdpjlbcnkfaaDoorAbs
set_option linter.unusedVariables false
set_option linter.unusedSimpArgs false
structure KpL (S S' : St) : Prop where
  next : S.next ≤ S'.next
  get : ∀ i, i < S.next → (none : Option Nat) ≠ some i → S'.get i = S.get i
  low : ∀ m, m ≤ S.low → m ≤ S.next → m ≤ S'.low
theorem KpL.kept {S S' : St} (h : KpL S S') : Kept S S' none := ⟨h.next, h.get⟩
theorem KpL.refl (S : St) : KpL S S := ⟨Nat.le_refl _, fun _ _ _ => rfl, fun _ h _ => h⟩
theorem KpL.trans {S S1 S2 : St} (h : KpL S S1) (k : KpL S1 S2) : KpL S S2 := ⟨Nat.le_trans h.1 k.1, fun i hi ho => (k.2 i (Nat.lt_of_lt_of_le hi h.1) ho).trans (h.2 i hi ho), fun m h1 h2 => k.low m (h.low m h1 h2) (Nat.le_trans h2 h.1)⟩
theorem KpL.push (S : St) (b : Blk) : KpL S (S.push b) := ⟨Nat.le_succ _, fun i hi _ => S.get_push_lt b hi, fun _ h _ => h⟩
theorem KpL.upd {S0 S1 : St} (h : KpL S0 S1) {i : Nat} (hi : S0.next ≤ i) (b : Blk) : KpL S0 (S1.upd i b) :=
  ⟨h.1, fun j hj _ => (S1.get_upd_ne b (by omega)).trans (h.2 j hj (by simp)), fun m h1 h2 => Nat.le_min.2 ⟨h.low m h1 h2, Nat.le_trans h2 hi⟩⟩
section
variable {P : Program} {I : Prims} {ops : Array Oper} {r : List Oper} {Q : Env → St → Prop} {e : Env} {S : St} {dst : Option Tmp} {ty : TypeId} {pos : String} {after : Array Edge}
end
end Go.Proofs.YtdfgdpjlbcnkfaaDoorAbs
namespace Go.Proofs.YtdfgdpjlbcnkfaaDoor.Q
open Go Go.Proofs.YtdfgdpjlbcnkfaaDoorAbs Go.Proofs
set_option linter.unusedVariables false
set_option linter.unusedSimpArgs false
set_option maxRecDepth 100000
set_option maxHeartbeats 4000000
attribute [local irreducible] Go.Proofs.YtdfgdpjlbcnkfaaDoorAbs.O Go.Proofs.YtdfgdpjlbcnkfaaDoorAbs.W Go.Proofs.YtdfgdpjlbcnkfaaDoorAbs.C Go.Proofs.YtdfgdpjlbcnkfaaDoorAbs.OK Go.Proofs.YtdfgdpjlbcnkfaaDoorAbs.OKF Go.Proofs.YtdfgdpjlbcnkfaaDoorAbs.OKT Go.Proofs.YtdfgdpjlbcnkfaaDoorAbs.then_ Go.Proofs.YtdfgdpjlbcnkfaaDoorAbs.inBlock_ Go.Proofs.YtdfgdpjlbcnkfaaDoorAbs.bodyQ Go.Proofs.YtdfgdpjlbcnkfaaDoorAbs.Cont
def HTZ (I : Prims) : Prop := ∀ (S : St) (Q : Value → St → Prop), S.get 6 = some ⟨tab64, 0, false, 0⟩ → Q (.int .i64 4) S → C Tryd.prog I 97 #[.int .u64 16] S Q
def dgS : ByteArray := ⟨#[48, 49, 50, 51, 52, 53, 54, 55, 56, 57, 97, 98, 99, 100, 101, 102, 103, 104, 105, 106, 107, 108, 109, 110, 111, 112, 113, 114, 115, 116, 117, 118, 119, 120, 121, 122]⟩
theorem dg_at (k : Nat) (h : k < 16) : dgS.data.toList.getD k 0 = hexD k := by
  have : ∀ k, k < 16 → dgS.data.toList.getD k 0 = hexD k := by decide +kernel
  exact this k h
theorem and15 (u : Nat) (h : u < 18446744073709551616) : IntKind.u64.wrap (BitVec.ofInt IntKind.u64.bits (u : Int) &&& BitVec.ofInt IntKind.u64.bits 15).toNat = ((u % 16 : Nat) : Int) := by
  have e : (BitVec.ofInt IntKind.u64.bits (u : Int) &&& BitVec.ofInt IntKind.u64.bits 15).toNat = u % 16 := by
    rw [show (15 : Int) = ((15 : Nat) : Int) from rfl, BitVec.ofInt_natCast, BitVec.ofInt_natCast, BitVec.toNat_and, BitVec.toNat_ofNat, BitVec.toNat_ofNat]
    rw [show (2 : Nat) ^ IntKind.u64.bits = 18446744073709551616 from rfl, Nat.mod_eq_of_lt h, Nat.mod_eq_of_lt (by omega)]
    exact Nat.and_two_pow_sub_one_eq_mod u 4
  rw [e, Go.Proofs.YtdfgdpjlbcnkfaaDoorAbs.wpu64 (by omega) (by omega)]
section
variable {I : Prims} {S : St} {Q : Value → St → Prop}
theorem Pow2_C (h : HI I) (hQ : Q (.bool true) S) : C Tryd.prog I 96 #[.int .i64 16] S Q := by
  refine C_body (rs := [.tmp 2]) (h.no 96 (by decide)) Tryd.func96 rfl rfl ok96 ?_
  obtain ⟨u22, sz5, u5, u9, u3, u29, u34, u33, sz3, u4, u41, sz66, u46, sz28, u47, u52, sz22, sz62, sz24, sz59, u59, sz60, u60, sz41, sz58, u58, sz73, sz34, sz4, sz9, sz83, u88, sz86, u112, sz118, u118, u2, sz126, u126, u21, sz130, u130, u139, u140, sz141, u141, u145, u148, sz147, u154, u155⟩ := UF
  have e : IntKind.i64.wrap (BitVec.ofInt IntKind.i64.bits 16 &&& BitVec.ofInt IntKind.i64.bits (IntKind.i64.wrap (16 - 1))).toNat = 0 := by decide
  repeat' (first
    | (with_reducible first | refine W_pushC fun K hK => ?_ | refine W_blockI ?_ | refine W_scopeI ?_ | refine W_labelI ?_ | refine W_skipI ?_ | refine W_retI ?_ | refine W_exitI ?_ | refine then_normalI ?_ | refine then_retI ?_ | refine then_exitI ?_ | refine inBlock_normalI ?_ | refine inBlock_retI ?_ | refine inBlock_exitI ?_ | refine inBlock_exitN (by decide) ?_)
    | ((with_reducible first | refine bodyQ_normal0 ?_ | refine bodyQ_normal1 ?_ | refine bodyQ_normal2 ?_ | refine bodyQ_normal3 ?_ | refine bodyQ_normal4 ?_ | refine bodyQ_ret0 ?_ | refine bodyQ_ret1 ?_ | refine bodyQ_ret2 ?_ | refine bodyQ_ret3 ?_ | refine bodyQ_ret4 ?_); (try simp only [EVB, Nat.reduceEqDiff, reduceIte]))
    | (with_reducible refine Cont.use (by assumption) ?_)
    | (with_reducible first | refine hcA ?_ | refine hcB ?_)
    | ((with_reducible first | refine W_condG fun cA cB hcA hcB => ?_ | refine W_regionI ?_ | show O _ _ _ _ _ _ _ _ | show OK _ _ _ _ _ _ _ _ _ | show OKF _ _ _ _ _ _ _ _ _ _ | show OKT _ _ _ _ _ _ _ _ _ _ _ _ | show _ ∧ _ | show CG _ _ _ | show CB _ _ _); simp (disch := first | ((with_reducible show isStop _ = false); rfl) | ((with_reducible show isP _ = true); rfl) | ((with_reducible show (isStop _ || isP _) = false); rfl) | assumption | (simp only [GSB, Nat.reduceEqDiff, reduceIte]; done) | omega | (with_reducible decide) | (simp only [DSB, Go.Proofs.YtdfgdpjlbcnkfaaDoorAbs.oneC, Nat.reduceAdd, Nat.reduceLeDiff] <;> omega) | fail) only [↓DN, ↓reduceIte, UP, CGB, Int.reduceEq, Int.reduceLT, Int.reduceLE, Nat.reduceEqDiff, Nat.reduceAdd, Nat.reduceMul, Nat.reduceSub, Int.reduceToNat, Nat.reduceLeDiff, PF, isStop, isP, goInt, beq_self_eq_true, decide_true, decide_false, Int.toNat_natCast, Int.natCast_zero, e])
    | ((with_reducible refine CB_intro (fun ht => hcA ?_) (fun ht => hcB ?_)) <;> (first | (simp only [Bool.true_eq_false, Bool.false_eq_true] at ht; done) | ((try simp only [Bool.not_eq_true', Bool.not_eq_false'] at ht); (try simp only [ht]); (try simp only [HTN] at ht); (try (exfalso; omega)))))
    | ((with_reducible refine W_regionI ?_); simp only [List.append_eq, List.cons_append, List.nil_append])
    | (with_reducible refine O_splitG fun cA cB hcA hcB => ?_)
    | (exact hQ))
theorem hexL_small {u : Nat} (h0 : 0 < u) (h : u < 16) : hexL u = [hexD u] := by
  rw [hexL_pos h0, show u / 16 = 0 by omega, hexL_zero, Nat.mod_eq_of_lt h]; rfl
theorem Bits_C (h : HI I) (ht : HTZ I) (h6 : S.get 6 = some ⟨tab64, 0, false, 0⟩) (h6n : 6 < S.next) {n : Nat} (h0 : 0 < n) (hn : n < 1099511627776)
    (hQ : ∀ v' S', Own 5 1 S' v' (hexL n).length (u8v (hexL n)) → Kept S S' none → (∀ i, blkOf v' = some i → S.next ≤ i) → Q (.tuple #[v', .string ⟨#[]⟩]) S') : C Tryd.prog I 87 #[.slice none 0 0, .int .u64 n, .int .i64 16, .bool false, .bool true] S Q := by
  refine C_body (rs := [.tmp 10, .tmp 11]) (h.no 87 (by decide)) Tryd.func87 rfl rfl ok87 ?_
  obtain ⟨u22, sz5, u5, u9, u3, u29, u34, u33, sz3, u4, u41, sz66, u46, sz28, u47, u52, sz22, sz62, sz24, sz59, u59, sz60, u60, sz41, sz58, u58, sz73, sz34, sz4, sz9, sz83, u88, sz86, u112, sz118, u118, u2, sz126, u126, u21, sz130, u130, u139, u140, sz141, u141, u145, u148, sz147, u154, u155⟩ := UF
  have hh6 : ∀ B, (S.push B).get 6 = some ⟨tab64, 0, false, 0⟩ := fun B => (St.get_push_ne _ _ (by omega)).trans h6
  have w15 : IntKind.u64.wrap (16 - 1) = 15 := by decide
  have w16 : IntKind.u64.wrap 16 = 16 := by decide
  have w4 : IntKind.u64.wrap 4 = 4 := by decide
  repeat' (first
    | (with_reducible first | refine W_pushC fun K hK => ?_ | refine W_blockI ?_ | refine W_scopeI ?_ | refine W_labelI ?_ | refine W_skipI ?_ | refine W_retI ?_ | refine W_exitI ?_ | refine then_normalI ?_ | refine then_retI ?_ | refine then_exitI ?_ | refine inBlock_normalI ?_ | refine inBlock_retI ?_ | refine inBlock_exitI ?_ | refine inBlock_exitN (by decide) ?_)
    | ((with_reducible first | refine bodyQ_normal0 ?_ | refine bodyQ_normal1 ?_ | refine bodyQ_normal2 ?_ | refine bodyQ_normal3 ?_ | refine bodyQ_normal4 ?_ | refine bodyQ_ret0 ?_ | refine bodyQ_ret1 ?_ | refine bodyQ_ret2 ?_ | refine bodyQ_ret3 ?_ | refine bodyQ_ret4 ?_); (try simp only [EVB, Nat.reduceEqDiff, reduceIte]))
    | ((with_reducible show C _ _ _ _ _ _); first | (refine Pow2_C h ?_))
    | (with_reducible refine Cont.use (by assumption) ?_)
    | (with_reducible first | refine hcA ?_ | refine hcB ?_)
    | ((with_reducible first | refine W_condG fun cA cB hcA hcB => ?_ | refine W_regionI ?_ | show O _ _ _ _ _ _ _ _ | show OK _ _ _ _ _ _ _ _ _ | show OKF _ _ _ _ _ _ _ _ _ _ | show OKT _ _ _ _ _ _ _ _ _ _ _ _ | show _ ∧ _ | show CG _ _ _ | show CB _ _ _); simp (disch := first | ((with_reducible show isStop _ = false); rfl) | ((with_reducible show isP _ = true); rfl) | ((with_reducible show (isStop _ || isP _) = false); rfl) | assumption | (simp only [GSB, Nat.reduceEqDiff, reduceIte]; done) | omega | (with_reducible decide) | (simp only [DSB, Go.Proofs.YtdfgdpjlbcnkfaaDoorAbs.oneC, Nat.reduceAdd, Nat.reduceLeDiff] <;> omega) | fail) only [↓DN, ↓reduceIte, UP, CGB, Int.reduceEq, Int.reduceLT, Int.reduceLE, Nat.reduceEqDiff, Nat.reduceAdd, Nat.reduceMul, Nat.reduceSub, Int.reduceToNat, Nat.reduceLeDiff, PF, isStop, isP, goInt, beq_self_eq_true, decide_true, decide_false, Int.toNat_natCast, Int.natCast_zero])
    | ((with_reducible refine CB_intro (fun ht => hcA ?_) (fun ht => hcB ?_)) <;> (first | (simp only [Bool.true_eq_false, Bool.false_eq_true] at ht; done) | ((try simp only [Bool.not_eq_true', Bool.not_eq_false'] at ht); (try simp only [ht]); (try simp only [HTN] at ht); (try (exfalso; omega)))))
    | ((with_reducible refine W_regionI ?_); simp only [List.append_eq, List.cons_append, List.nil_append])
    | (with_reducible refine O_splitG fun cA cB hcA hcB => ?_))
  refine ht _ _ (hh6 _) ?_
  repeat' (first
    | (with_reducible first | refine W_pushC fun K hK => ?_ | refine W_blockI ?_ | refine W_scopeI ?_ | refine W_labelI ?_ | refine W_skipI ?_ | refine W_retI ?_ | refine W_exitI ?_ | refine then_normalI ?_ | refine then_retI ?_ | refine then_exitI ?_ | refine inBlock_normalI ?_ | refine inBlock_retI ?_ | refine inBlock_exitI ?_ | refine inBlock_exitN (by decide) ?_)
    | ((with_reducible first | refine bodyQ_normal0 ?_ | refine bodyQ_normal1 ?_ | refine bodyQ_normal2 ?_ | refine bodyQ_normal3 ?_ | refine bodyQ_normal4 ?_ | refine bodyQ_ret0 ?_ | refine bodyQ_ret1 ?_ | refine bodyQ_ret2 ?_ | refine bodyQ_ret3 ?_ | refine bodyQ_ret4 ?_); (try simp only [EVB, Nat.reduceEqDiff, reduceIte]))
    | (with_reducible refine Cont.use (by assumption) ?_)
    | (with_reducible first | refine hcA ?_ | refine hcB ?_)
    | ((with_reducible first | refine W_condG fun cA cB hcA hcB => ?_ | refine W_regionI ?_ | show O _ _ _ _ _ _ _ _ | show OK _ _ _ _ _ _ _ _ _ | show OKF _ _ _ _ _ _ _ _ _ _ | show OKT _ _ _ _ _ _ _ _ _ _ _ _ | show _ ∧ _ | show CG _ _ _ | show CB _ _ _); simp (disch := first | ((with_reducible show isStop _ = false); rfl) | ((with_reducible show isP _ = true); rfl) | ((with_reducible show (isStop _ || isP _) = false); rfl) | assumption | (simp only [GSB, Nat.reduceEqDiff, reduceIte]; done) | omega | (with_reducible decide) | (simp only [DSB, Go.Proofs.YtdfgdpjlbcnkfaaDoorAbs.oneC, Nat.reduceAdd, Nat.reduceLeDiff] <;> omega) | fail) only [↓DN, ↓reduceIte, UP, CGB, Int.reduceEq, Int.reduceLT, Int.reduceLE, Nat.reduceEqDiff, Nat.reduceAdd, Nat.reduceMul, Nat.reduceSub, Int.reduceToNat, Nat.reduceLeDiff, PF, isStop, isP, goInt, beq_self_eq_true, decide_true, decide_false, Int.toNat_natCast, Int.natCast_zero, w15, w16, w4])
    | ((with_reducible refine CB_intro (fun ht => hcA ?_) (fun ht => hcB ?_)) <;> (first | (simp only [Bool.true_eq_false, Bool.false_eq_true] at ht; done) | ((try simp only [Bool.not_eq_true', Bool.not_eq_false'] at ht); (try simp only [ht]); (try simp only [HTN] at ht); (try (exfalso; omega)))))
    | ((with_reducible refine W_regionI ?_); simp only [List.append_eq, List.cons_append, List.nil_append])
    | (with_reducible refine O_splitG fun cA cB hcA hcB => ?_))
  refine W_loop (fun m e S1 => ∃ (u i : Nat) (ds : List UInt8) (cs : List Value) (mm : Nat), e.get 0 = .slice none 0 0 ∧ e.get 1 = .int .u64 u ∧ e.get 3 = .bool false ∧ e.get 4 = .bool true ∧ e.get 11 = .string ⟨#[]⟩ ∧ e.get 12 = .pointer (some ⟨S.next, 0, some 65⟩) ∧ e.get 13 = .int .i64 i ∧ e.get 14 = .int .u64 4 ∧ e.get 15 = .int .u64 16 ∧ e.get 16 = .int .u64 15 ∧ 0 < u ∧ u < 1099511627776 ∧ i + ds.length = 65 ∧ hexL n = hexL u ++ ds ∧ u * 16 ^ ds.length ≤ n ∧ cs = List.replicate i (.int .u8 0) ++ u8v ds ∧ S1.get S.next = some ⟨cs, 141, true, mm⟩ ∧ mm ≤ 65 ∧ Kept S S1 none ∧ S.next < S1.next ∧ m = u) n ⟨n, 65, [], List.replicate 65 (.int .u8 0), 0, by simp only [EVB, Nat.reduceEqDiff, reduceIte], by simp only [EVB, Nat.reduceEqDiff, reduceIte], by simp only [EVB, Nat.reduceEqDiff, reduceIte], by simp only [EVB, Nat.reduceEqDiff, reduceIte], by simp only [EVB, Nat.reduceEqDiff, reduceIte], by simp only [EVB, Nat.reduceEqDiff, reduceIte], by simp only [EVB, Nat.reduceEqDiff, reduceIte]; rfl, by simp only [EVB, Nat.reduceEqDiff, reduceIte], by simp only [EVB, Nat.reduceEqDiff, reduceIte], by simp only [EVB, Nat.reduceEqDiff, reduceIte], h0, hn, rfl, by simp, by simp, by simp [u8v], St.get_push_self _ _, Nat.zero_le _, Kept.push _ none, Nat.lt_succ_self _, rfl⟩ ?_
  rintro m e S1 ⟨u, i, ds, cs, mm, e0, e1, e3, e4, e11, e12, e13, e14, e15, e16, hu0, hu, hi, hx, hpw, hcs, g1, hmm, kk, nx, rfl⟩
  have hcl : cs.length = 65 := by rw [hcs]; simp [u8v]; omega
  have hds : ds.length < 16 := by
    refine Decidable.byContradiction fun q => ?_
    have h1 : 16 ^ 16 ≤ 16 ^ ds.length := Nat.pow_le_pow_right (by omega) (by omega)
    have h2 : 16 ^ ds.length ≤ m * 16 ^ ds.length := Nat.le_mul_of_pos_left _ hu0
    have h3 : (16 : Nat) ^ 16 = 18446744073709551616 := by decide
    omega
  have wi : IntKind.i64.wrap ((i : Int) - 1) = ((i - 1 : Nat) : Int) := by rw [Go.Proofs.YtdfgdpjlbcnkfaaDoorAbs.wp64 (by omega) (by omega)]; omega
  have hput : ∀ d : UInt8, cs.take (i - 1) ++ [Value.int .u8 d.toNat] ++ cs.drop (i - 1 + 1) = List.replicate (i - 1) (.int .u8 0) ++ u8v (d :: ds) := fun d => by
    rw [hcs, show i - 1 + 1 = i by omega]
    have e1 : (List.replicate i (Value.int .u8 0) ++ u8v ds).drop i = u8v ds := by rw [List.drop_append_of_le_length (by simp)]; simp
    have e2 : (List.replicate i (Value.int .u8 0) ++ u8v ds).take (i - 1) = List.replicate (i - 1) (.int .u8 0) := by
      rw [List.take_append_of_le_length (by simp), List.take_replicate, Nat.min_eq_left (by omega)]
    rw [e1, e2]; simp [u8v]
  by_cases hge : 16 ≤ m
  · have d1 : decide ((16 : Int) ≤ (m : Int)) = true := decide_eq_true (by omega)
    have ha := and15 m (by omega)
    have hix : ixX Tryd.prog 9 (.string dgS) (.int .u64 ((m % 16 : Nat) : Int)) = some (.int .u8 ((hexD (m % 16)).toNat : Int)) := by
      rw [ixX_string _ _ _ _ u9 (by omega) (by have : dgS.size = 36 := rfl; omega), Int.toNat_natCast, dg_at _ (Nat.mod_lt _ (by omega))]
    simp only [dgS] at hix
    have hsh : (m : Int).fdiv (2 ^ (min 4 IntKind.u64.bits)) = ((m / 16 : Nat) : Int) := by
      rw [show (2 : Int) ^ (min 4 IntKind.u64.bits) = 16 by decide, Int.fdiv_eq_ediv_of_nonneg _ (by decide)]; omega
    have hw2 : IntKind.u64.wrap ((m / 16 : Nat) : Int) = ((m / 16 : Nat) : Int) := Go.Proofs.YtdfgdpjlbcnkfaaDoorAbs.wpu64 (by omega) (by omega)
    have hpw2 : (m / 16) * 16 ^ (hexD (m % 16) :: ds).length ≤ n := by
      rw [List.length_cons, Nat.pow_succ, Nat.mul_comm (16 ^ ds.length), ← Nat.mul_assoc]
      exact Nat.le_trans (Nat.mul_le_mul_right _ (by omega)) hpw
    have hx2 : hexL n = hexL (m / 16) ++ (hexD (m % 16) :: ds) := by rw [hx, hexL_pos hu0, List.append_assoc]; rfl
    repeat' (first
    | (with_reducible first | refine W_pushC fun K hK => ?_ | refine W_blockI ?_ | refine W_scopeI ?_ | refine W_labelI ?_ | refine W_skipI ?_ | refine W_retI ?_ | refine W_exitI ?_ | refine then_normalI ?_ | refine then_retI ?_ | refine then_exitI ?_ | refine inBlock_normalI ?_ | refine inBlock_retI ?_ | refine inBlock_exitI ?_ | refine inBlock_exitN (by decide) ?_)
    | ((with_reducible first | refine bodyQ_normal0 ?_ | refine bodyQ_normal1 ?_ | refine bodyQ_normal2 ?_ | refine bodyQ_normal3 ?_ | refine bodyQ_normal4 ?_ | refine bodyQ_ret0 ?_ | refine bodyQ_ret1 ?_ | refine bodyQ_ret2 ?_ | refine bodyQ_ret3 ?_ | refine bodyQ_ret4 ?_); (try simp only [EVB, Nat.reduceEqDiff, reduceIte]))
    | (with_reducible refine Cont.use (by assumption) ?_)
    | (with_reducible first | refine hcA ?_ | refine hcB ?_)
    | ((with_reducible first | refine W_condG fun cA cB hcA hcB => ?_ | refine W_regionI ?_ | show O _ _ _ _ _ _ _ _ | show OK _ _ _ _ _ _ _ _ _ | show OKF _ _ _ _ _ _ _ _ _ _ | show OKT _ _ _ _ _ _ _ _ _ _ _ _ | show _ ∧ _ | show CG _ _ _ | show CB _ _ _); simp (disch := first | ((with_reducible show isStop _ = false); rfl) | ((with_reducible show isP _ = true); rfl) | ((with_reducible show (isStop _ || isP _) = false); rfl) | assumption | (simp only [GSB, Nat.reduceEqDiff, reduceIte]; done) | omega | (with_reducible decide) | (simp only [DSB, Go.Proofs.YtdfgdpjlbcnkfaaDoorAbs.oneC, Nat.reduceAdd, Nat.reduceLeDiff] <;> omega) | fail) only [↓DN, ↓reduceIte, UP, CGB, Int.reduceEq, Int.reduceLT, Int.reduceLE, Nat.reduceEqDiff, Nat.reduceAdd, Nat.reduceMul, Nat.reduceSub, Int.reduceToNat, Nat.reduceLeDiff, PF, isStop, isP, goInt, beq_self_eq_true, decide_true, decide_false, Int.toNat_natCast, Int.natCast_zero, e0, e1, e3, e4, e11, e12, e13, e14, e15, e16, g1, d1, wi, ha, hix, hsh, hw2])
    | ((with_reducible refine CB_intro (fun ht => hcA ?_) (fun ht => hcB ?_)) <;> (first | (simp only [Bool.true_eq_false, Bool.false_eq_true] at ht; done) | ((try simp only [Bool.not_eq_true', Bool.not_eq_false'] at ht); (try simp only [ht]); (try simp only [HTN] at ht); (try (exfalso; omega)))))
    | ((with_reducible refine W_regionI ?_); simp only [List.append_eq, List.cons_append, List.nil_append])
    | (with_reducible refine O_splitG fun cA cB hcA hcB => ?_)
    | ((refine ⟨m / 16, by omega, m / 16, i - 1, hexD (m % 16) :: ds, _, _, by simp only [EVB, Nat.reduceEqDiff, reduceIte, e0], by simp only [EVB, Nat.reduceEqDiff, reduceIte], by simp only [EVB, Nat.reduceEqDiff, reduceIte, e3], by simp only [EVB, Nat.reduceEqDiff, reduceIte, e4], by simp only [EVB, Nat.reduceEqDiff, reduceIte, e11], by simp only [EVB, Nat.reduceEqDiff, reduceIte, e12], by simp only [EVB, Nat.reduceEqDiff, reduceIte], by simp only [EVB, Nat.reduceEqDiff, reduceIte, e14], by simp only [EVB, Nat.reduceEqDiff, reduceIte, e15], by simp only [EVB, Nat.reduceEqDiff, reduceIte, e16], by omega, by omega, by simp only [List.length_cons]; omega, hx2, hpw2, hput _, St.get_upd_self _ _ _, by omega, Kept.upd kk (Nat.le_refl _) _, by simp only [St.next_upd]; omega, rfl⟩)))
  · have d1 : decide ((16 : Int) ≤ (m : Int)) = false := decide_eq_false (by omega)
    have hix : ixX Tryd.prog 9 (.string dgS) (.int .u64 (m : Int)) = some (.int .u8 ((hexD m).toNat : Int)) := by
      rw [ixX_string _ _ _ _ u9 (by omega) (by have : dgS.size = 36 := rfl; omega), Int.toNat_natCast, dg_at _ (by omega)]
    simp only [dgS] at hix
    rw [hexL_small hu0 (by omega)] at hx
    have hsl : aslice Tryd.prog 141 (.pointer (some ⟨S.next, 0, some 65⟩)) (some (.int .i64 ((i - 1 : Nat) : Int))) none none = some (.slice (some ⟨S.next, i - 1, some 65⟩) (ds.length + 1) (ds.length + 1)) := by
      have a1 : (0 : Int) ≤ ((i - 1 : Nat) : Int) := Int.natCast_nonneg _
      have a2 : 65 - (i - 1) = ds.length + 1 := by omega
      simp only [aslice, anat, if_pos a1, u141, sz5, Int.toNat_natCast]
      rw [if_pos (show 65 < UNK by decide)]
      have a3 : ¬ UNK ≤ 65 := by decide
      have a4 : abounds 65 65 65 (some (i - 1)) none none = some (i - 1, 65 - (i - 1), 65 - (i - 1)) := by
        simp only [abounds, Option.getD_none, Option.getD_some]
        rw [if_pos ⟨Nat.le_refl _, by omega⟩, if_neg a3]
      simp only [a4, asub, a2, Nat.mul_one, Nat.zero_add]
    repeat' (first
    | (with_reducible first | refine W_pushC fun K hK => ?_ | refine W_blockI ?_ | refine W_scopeI ?_ | refine W_labelI ?_ | refine W_skipI ?_ | refine W_retI ?_ | refine W_exitI ?_ | refine then_normalI ?_ | refine then_retI ?_ | refine then_exitI ?_ | refine inBlock_normalI ?_ | refine inBlock_retI ?_ | refine inBlock_exitI ?_ | refine inBlock_exitN (by decide) ?_)
    | ((with_reducible first | refine bodyQ_normal0 ?_ | refine bodyQ_normal1 ?_ | refine bodyQ_normal2 ?_ | refine bodyQ_normal3 ?_ | refine bodyQ_normal4 ?_ | refine bodyQ_ret0 ?_ | refine bodyQ_ret1 ?_ | refine bodyQ_ret2 ?_ | refine bodyQ_ret3 ?_ | refine bodyQ_ret4 ?_); (try simp only [EVB, Nat.reduceEqDiff, reduceIte]))
    | (with_reducible refine Cont.use (by assumption) ?_)
    | (with_reducible first | refine hcA ?_ | refine hcB ?_)
    | ((with_reducible first | refine W_condG fun cA cB hcA hcB => ?_ | refine W_regionI ?_ | show O _ _ _ _ _ _ _ _ | show OK _ _ _ _ _ _ _ _ _ | show OKF _ _ _ _ _ _ _ _ _ _ | show OKT _ _ _ _ _ _ _ _ _ _ _ _ | show _ ∧ _ | show CG _ _ _ | show CB _ _ _); simp (disch := first | ((with_reducible show isStop _ = false); rfl) | ((with_reducible show isP _ = true); rfl) | ((with_reducible show (isStop _ || isP _) = false); rfl) | assumption | (simp only [GSB, Nat.reduceEqDiff, reduceIte]; done) | omega | (with_reducible decide) | (simp only [DSB, Go.Proofs.YtdfgdpjlbcnkfaaDoorAbs.oneC, Nat.reduceAdd, Nat.reduceLeDiff] <;> omega) | fail) only [↓DN, ↓reduceIte, UP, CGB, Int.reduceEq, Int.reduceLT, Int.reduceLE, Nat.reduceEqDiff, Nat.reduceAdd, Nat.reduceMul, Nat.reduceSub, Int.reduceToNat, Nat.reduceLeDiff, PF, isStop, isP, goInt, beq_self_eq_true, decide_true, decide_false, Int.toNat_natCast, Int.natCast_zero, e0, e1, e3, e4, e11, e12, e13, e14, e15, e16, g1, d1, wi, hix, hsl])
    | ((with_reducible refine CB_intro (fun ht => hcA ?_) (fun ht => hcB ?_)) <;> (first | (simp only [Bool.true_eq_false, Bool.false_eq_true] at ht; done) | ((try simp only [Bool.not_eq_true', Bool.not_eq_false'] at ht); (try simp only [ht]); (try simp only [HTN] at ht); (try (exfalso; omega)))))
    | ((with_reducible refine W_regionI ?_); simp only [List.append_eq, List.cons_append, List.nil_append])
    | (with_reducible refine O_splitG fun cA cB hcA hcB => ?_))
    have hlen : (hexL n).length = ds.length + 1 := by rw [hx]; simp
    have hx3 : hexD m :: ds = hexL n := by rw [hx]; rfl
    have hget : ∀ mn, aread (S1.upd S.next ⟨cs.take (i - 1) ++ [Value.int .u8 (hexD m).toNat] ++ cs.drop (i - 1 + 1), 141, true, mn⟩) ⟨S.next, i - 1, some 65⟩ ((ds.length + 1) * 1) = if mn ≤ 65 then some (u8v (hexL n)) else none := fun mn => by
      unfold aread
      simp only [St.get_upd_self, hput, hx3]
      have hl1 : (List.replicate (i - 1) (Value.int .u8 0) ++ u8v (hexL n)).length = 65 := by simp [u8v, hlen]; omega
      have hl2 : ((List.replicate (i - 1) (Value.int .u8 0) ++ u8v (hexL n)).drop (i - 1)).take ((ds.length + 1) * 1) = u8v (hexL n) := by
        rw [List.drop_append_of_le_length (by simp)]
        simp only [List.drop_replicate, Nat.sub_self, List.replicate_zero, List.nil_append]
        exact List.take_of_length_le (by simp [u8v, hlen])
      by_cases q : mn ≤ 65
      · rw [if_pos ⟨fun _ => ⟨q, by omega⟩, by rw [hl1]; omega⟩, if_pos q, hl2]
      · rw [if_neg (fun z => q (z.1 trivial).1), if_neg q]
    have hsrc : ∀ mn, mn ≤ 65 → asrc Tryd.prog (S1.upd S.next ⟨cs.take (i - 1) ++ [Value.int .u8 (hexD m).toNat] ++ cs.drop (i - 1 + 1), 141, true, mn⟩) 22 1 (.slice (some ⟨S.next, i - 1, some 65⟩) (ds.length + 1) (ds.length + 1)) = some (ds.length + 1, u8v (hexL n)) := fun mn hmn => by
      simp only [asrc, u22]
      rw [if_neg (by omega)]
      simp only [hget, if_pos hmn]
      rw [if_pos (u8v_one _)]
    refine O_append (P := Tryd.prog) (elem := 5) (size := 1) (bytes := 1) (n := 0) (m := ds.length + 1) (xs := []) (ys := u8v (hexL n)) u22 sz5 by5 ze5 ⟨by decide, by decide, rfl⟩ (by simp only [EVB, Nat.reduceEqDiff, reduceIte, e0]; exact Own.nil _ _ _) (by simp only [EVB, Nat.reduceEqDiff, reduceIte]; exact hsrc _ (by omega)) ⟨by simp [u8v, hlen], u8v_one _⟩ (by omega) fun v1 S2 hO2 hK2 hB2 => ?_
    simp only [EVB, Nat.reduceEqDiff, reduceIte, e0] at hK2 hB2
    simp only [List.nil_append, Nat.zero_add] at hO2
    have hO3 : Own 5 1 S2 v1 (hexL n).length (u8v (hexL n)) := by rw [hlen]; exact hO2
    have hK3 : Kept S S2 none := (Kept.upd kk (Nat.le_refl _) _).trans hK2
    have hn3 : ∀ j, blkOf v1 = some j → S.next ≤ j := fun j q => by
      rcases hB2 with z | ⟨j', z1, z2⟩
      · rw [z] at q; cases q
      · rw [z2] at q; cases q; simp only [St.next_upd] at z1; omega
    repeat' (first
    | (with_reducible first | refine W_pushC fun K hK => ?_ | refine W_blockI ?_ | refine W_scopeI ?_ | refine W_labelI ?_ | refine W_skipI ?_ | refine W_retI ?_ | refine W_exitI ?_ | refine then_normalI ?_ | refine then_retI ?_ | refine then_exitI ?_ | refine inBlock_normalI ?_ | refine inBlock_retI ?_ | refine inBlock_exitI ?_ | refine inBlock_exitN (by decide) ?_)
    | ((with_reducible first | refine bodyQ_normal0 ?_ | refine bodyQ_normal1 ?_ | refine bodyQ_normal2 ?_ | refine bodyQ_normal3 ?_ | refine bodyQ_normal4 ?_ | refine bodyQ_ret0 ?_ | refine bodyQ_ret1 ?_ | refine bodyQ_ret2 ?_ | refine bodyQ_ret3 ?_ | refine bodyQ_ret4 ?_); (try simp only [EVB, Nat.reduceEqDiff, reduceIte]))
    | (with_reducible refine Cont.use (by assumption) ?_)
    | (with_reducible first | refine hcA ?_ | refine hcB ?_)
    | ((with_reducible first | refine W_condG fun cA cB hcA hcB => ?_ | refine W_regionI ?_ | show O _ _ _ _ _ _ _ _ | show OK _ _ _ _ _ _ _ _ _ | show OKF _ _ _ _ _ _ _ _ _ _ | show OKT _ _ _ _ _ _ _ _ _ _ _ _ | show _ ∧ _ | show CG _ _ _ | show CB _ _ _); simp (disch := first | ((with_reducible show isStop _ = false); rfl) | ((with_reducible show isP _ = true); rfl) | ((with_reducible show (isStop _ || isP _) = false); rfl) | assumption | (simp only [GSB, Nat.reduceEqDiff, reduceIte]; done) | omega | (with_reducible decide) | (simp only [DSB, Go.Proofs.YtdfgdpjlbcnkfaaDoorAbs.oneC, Nat.reduceAdd, Nat.reduceLeDiff] <;> omega) | fail) only [↓DN, ↓reduceIte, UP, CGB, Int.reduceEq, Int.reduceLT, Int.reduceLE, Nat.reduceEqDiff, Nat.reduceAdd, Nat.reduceMul, Nat.reduceSub, Int.reduceToNat, Nat.reduceLeDiff, PF, isStop, isP, goInt, beq_self_eq_true, decide_true, decide_false, Int.toNat_natCast, Int.natCast_zero])
    | ((with_reducible refine CB_intro (fun ht => hcA ?_) (fun ht => hcB ?_)) <;> (first | (simp only [Bool.true_eq_false, Bool.false_eq_true] at ht; done) | ((try simp only [Bool.not_eq_true', Bool.not_eq_false'] at ht); (try simp only [ht]); (try simp only [HTN] at ht); (try (exfalso; omega)))))
    | ((with_reducible refine W_regionI ?_); simp only [List.append_eq, List.cons_append, List.nil_append])
    | (with_reducible refine O_splitG fun cA cB hcA hcB => ?_)
    | ((rw [e11]; exact hQ _ _ hO3 hK3 hn3)))
end
end Go.Proofs.YtdfgdpjlbcnkfaaDoor.Q
namespace Go.Proofs.YtdfgdpjlbcnkfaaDoor.Q
open Go Go.Proofs.YtdfgdpjlbcnkfaaDoorAbs Go.Proofs
set_option linter.unusedVariables false
set_option linter.unusedSimpArgs false
def lineB (f : Fld) : List UInt8 := f.1.data.toList ++ [58, 32] ++ f.2.data.toList ++ [13, 10]
def linesB (l : List Fld) : List UInt8 := l.flatMap lineB
structure OkFld (f : Fld) : Prop where
  ne : f.1.data.toList ≠ []
  tok : ∀ c ∈ f.1.data.toList, tokB (c.toNat : Int) = true
  val : ∀ c ∈ f.2.data.toList, valB (c.toNat : Int) = true
  trim : trimB f.2 = f.2
def r6 (most len dg lf sum : Int) (t : List Fld) (x : List UInt8) : PRd := ⟨most, len, 6, none, dg, lf, false, 0, x, sum, t⟩
theorem idx_none : ∀ {l : List UInt8} {c : UInt8}, Go.Lib.indexByte l 58 < 0 → c ≠ 58 → Go.Lib.indexByte (l ++ [c]) 58 < 0
  | [], c, _, hc => by
    have : (c == 58) = false := by simpa using hc
    simp [Go.Lib.indexByte, this]
  | b :: l, c, h, hc => by
    unfold Go.Lib.indexByte at h
    rw [List.cons_append]
    unfold Go.Lib.indexByte
    have h0 := (idx_lt l 58).2
    cases hb : (b == 58)
    · simp only [hb, Bool.false_eq_true, if_false] at h ⊢
      by_cases h2 : Go.Lib.indexByte l 58 = -1
      · have := idx_none (l := l) (c := c) (by omega) hc
        have h3 := (idx_lt (l ++ [c]) 58).2
        have : Go.Lib.indexByte (l ++ [c]) 58 = -1 := by omega
        simp [this]
      · simp [h2] at h
        omega
    · simp [hb] at h
theorem idx_first : ∀ {l : List UInt8} (r : List UInt8), Go.Lib.indexByte l 58 < 0 → Go.Lib.indexByte (l ++ 58 :: r) 58 = l.length
  | [], r, _ => by simp [Go.Lib.indexByte]
  | b :: l, r, h => by
    unfold Go.Lib.indexByte at h
    rw [List.cons_append]
    unfold Go.Lib.indexByte
    have h0 := (idx_lt l 58).2
    cases hb : (b == 58)
    · simp only [hb, Bool.false_eq_true, if_false] at h ⊢
      by_cases h2 : Go.Lib.indexByte l 58 = -1
      · have h3 := idx_first (l := l) r (by omega)
        rw [h3]
        have h4 : ((l.length : Int) == -1) = false := by
          have : ¬ (l.length : Int) = -1 := by omega
          exact beq_eq_false_iff_ne.2 this
        simp [h4]
      · simp [h2] at h
        omega
    · simp [hb] at h
theorem tok_ne {c : UInt8} (h : tokB (c.toNat : Int) = true) : (c.toNat : Int) ≠ 13 ∧ c ≠ 58 := by
  have h1 : tokB (13 : Int) = false := by decide +kernel
  have h2 : tokB (58 : Int) = false := by decide +kernel
  refine ⟨(fun q => by rw [q, h1] at h; cases h), fun q => ?_⟩
  have : (c.toNat : Int) = 58 := by rw [q]; rfl
  rw [this, h2] at h; cases h
theorem val_ne {c : UInt8} (h : valB (c.toNat : Int) = true) : (c.toNat : Int) ≠ 13 := by
  have h1 : valB (13 : Int) = false := by decide +kernel
  intro q
  rw [q, h1] at h; cases h
theorem step_text {most len dg lf sum : Int} {t : List Fld} {x : List UInt8} {c : UInt8} (hs0 : 0 ≤ sum) (hs : sum + 1 ≤ 8192) (hx : x = [] → t.length ≠ 64) (h13 : (c.toNat : Int) ≠ 13)
    (h : (0 < Go.Lib.indexByte x 58 ∧ valB c.toNat = true) ∨ (Go.Lib.indexByte x 58 < 0 ∧ (tokB c.toNat = true ∨ (c.toNat : Int) = 58 ∧ ¬ x.length = 0))) :
    stepF (r6 most len dg lf sum t x) c = r6 most len dg lf (sum + 1) t (x ++ [c]) := by
  have w : IntKind.i64.wrap (sum + 1) = sum + 1 := Go.Proofs.YtdfgdpjlbcnkfaaDoorAbs.wp64 (by omega) (by omega)
  unfold stepF r6
  rw [if_neg (by simp only; omega), if_neg (by simp only; omega), if_neg (by simp only; omega), if_neg (by simp only; omega), if_neg (by simp only; omega)]
  unfold trailerF
  rw [if_neg (by simp only; omega)]
  simp only [w]
  rw [if_neg (fun q => h13 q.2), if_neg (by omega), if_neg (fun q => hx (List.length_eq_zero_iff.1 q.1) q.2), if_neg (fun q => h13 q.1), if_pos (by
    rcases h with q | q
    · exact .inl ⟨h13, q⟩
    · exact .inr ⟨h13, q⟩)]
theorem feed_text {most len dg lf : Int} {t : List Fld} {c : UInt8} {sum : Int} {x : List UInt8} (hs0 : 0 ≤ sum) (hs : sum + 1 ≤ 8192) (hx : x = [] → t.length ≠ 64) (h13 : (c.toNat : Int) ≠ 13)
    (h : (0 < Go.Lib.indexByte x 58 ∧ valB c.toNat = true) ∨ (Go.Lib.indexByte x 58 < 0 ∧ (tokB c.toNat = true ∨ (c.toNat : Int) = 58 ∧ ¬ x.length = 0))) :
    feedF (r6 most len dg lf sum t x) [c] = ([c].length, [], r6 most len dg lf (sum + 1) t (x ++ [c])) := by
  rw [feed_one rfl (by simp [r6]) (by simp [r6]), step_text hs0 hs hx h13 h]; rfl
theorem feed_name {most len dg lf : Int} {t : List Fld} : ∀ (n x : List UInt8) (sum : Int), 0 ≤ sum → sum + n.length ≤ 8192 → (x = [] → t.length ≠ 64) → (∀ c ∈ n, tokB (c.toNat : Int) = true) → Go.Lib.indexByte x 58 < 0 →
    feedF (r6 most len dg lf sum t x) n = (n.length, [], r6 most len dg lf (sum + n.length) t (x ++ n)) ∧ Go.Lib.indexByte (x ++ n) 58 < 0
  | [], x, sum, _, _, _, _, hi => by simp [feedF, hi]
  | c :: n, x, sum, h0, hs, hx, ht, hi => by
    have htc := ht c (by simp)
    obtain ⟨q1, q2⟩ := tok_ne htc
    simp only [List.length_cons] at hs
    have h1 := feed_text (most := most) (len := len) (dg := dg) (lf := lf) h0 (by omega) hx q1 (.inr ⟨hi, .inl htc⟩)
    obtain ⟨h2, h3⟩ := feed_name (most := most) (len := len) (dg := dg) (lf := lf) (t := t) n (x ++ [c]) (sum + 1) (by omega) (by omega) (fun q => by simp at q) (fun d hd => ht d (by simp [hd])) (idx_none hi q2)
    rw [show c :: n = [c] ++ n from rfl, feed_go h1, h2]
    refine ⟨?_, by simpa using h3⟩
    simp only [List.length_append, List.length_singleton, List.nil_append, List.append_assoc, List.singleton_append]
    rw [show sum + 1 + (n.length : Int) = sum + ((1 + n.length : Nat) : Int) by omega]
    simp only [List.length_cons, Nat.add_comm 1]
theorem feed_value {most len dg lf : Int} {t : List Fld} : ∀ (n x : List UInt8) (sum : Int), 0 ≤ sum → sum + n.length ≤ 8192 → (∀ c ∈ n, valB (c.toNat : Int) = true) → 0 < Go.Lib.indexByte x 58 →
    feedF (r6 most len dg lf sum t x) n = (n.length, [], r6 most len dg lf (sum + n.length) t (x ++ n))
  | [], x, sum, _, _, _, hi => by simp [feedF]
  | c :: n, x, sum, h0, hs, ht, hi => by
    have htc := ht c (by simp)
    have q1 := val_ne htc
    have hne : x = [] → t.length ≠ 64 := fun q => by rw [q] at hi; simp [Go.Lib.indexByte] at hi
    simp only [List.length_cons] at hs
    have h1 := feed_text (most := most) (len := len) (dg := dg) (lf := lf) h0 (by omega) hne q1 (.inl ⟨hi, htc⟩)
    have h2 := feed_value (most := most) (len := len) (dg := dg) (lf := lf) (t := t) n (x ++ [c]) (sum + 1) (by omega) (by omega) (fun d hd => ht d (by simp [hd])) (by rw [idx_append _ _ _ (by omega)]; exact hi)
    rw [show c :: n = [c] ++ n from rfl, feed_go h1, h2]
    simp only [List.length_append, List.length_singleton, List.nil_append, List.append_assoc, List.singleton_append]
    rw [show sum + 1 + (n.length : Int) = sum + ((1 + n.length : Nat) : Int) by omega]
    simp only [List.length_cons, Nat.add_comm 1]
theorem trim_blank (v : ByteArray) : trimB ⟨(32 :: v.data.toList).toArray⟩ = trimB v := by
  unfold trimB
  congr 2
  have h : ∀ l : List UInt8, Go.Lib.trimS (32 :: l) [32, 9] = Go.Lib.trimS l [32, 9] := fun l => by
    show ((((32 :: l).reverse.dropWhile (fun b => ([32, 9] : List UInt8).contains b)).reverse).dropWhile (fun b => ([32, 9] : List UInt8).contains b)) = (((l.reverse.dropWhile (fun b => ([32, 9] : List UInt8).contains b)).reverse).dropWhile (fun b => ([32, 9] : List UInt8).contains b))
    rw [List.reverse_cons, List.dropWhile_append]
    cases hl : l.reverse.dropWhile (fun b => ([32, 9] : List UInt8).contains b) with
    | nil => simp
    | cons y r => simp
  exact h _
theorem lineB_len (f : Fld) : (lineB f).length = f.1.data.toList.length + f.2.data.toList.length + 4 := by simp [lineB]; omega
theorem feed_line {most len dg lf sum : Int} {t : List Fld} {f : Fld} (h : OkFld f) (h0 : 0 ≤ sum) (hs : sum + (lineB f).length ≤ 8192) (ht : t.length ≠ 64) :
    feedF (r6 most len dg lf sum t []) (lineB f) = ((lineB f).length, [], r6 most len dg lf (sum + (lineB f).length) (t ++ [f]) []) := by
  have hl := lineB_len f
  generalize hn : f.1.data.toList = n at *
  generalize hv : f.2.data.toList = v at *
  have hne := h.ne
  have htk := h.tok
  have hvl := h.val
  rw [hn] at hne htk
  rw [hv] at hvl
  have hn0 : 0 < n.length := List.length_pos_iff.2 hne
  obtain ⟨a1, i1⟩ := feed_name (most := most) (len := len) (dg := dg) (lf := lf) (t := t) n [] sum h0 (by omega) (fun _ => ht) htk (by simp [Go.Lib.indexByte])
  rw [List.nil_append] at a1 i1
  have a2 := feed_text (most := most) (len := len) (dg := dg) (lf := lf) (t := t) (c := 58) (sum := sum + n.length) (x := n) (by omega) (by omega) (fun q => absurd q hne) (by decide) (.inr ⟨i1, .inr ⟨by decide, by omega⟩⟩)
  have i2 : Go.Lib.indexByte (n ++ [58]) 58 = n.length := idx_first [] i1
  have a3 := feed_text (most := most) (len := len) (dg := dg) (lf := lf) (t := t) (c := 32) (sum := sum + n.length + 1) (x := n ++ [58]) (by omega) (by omega) (fun q => by simp at q) (by decide) (.inl ⟨by rw [i2]; omega, by decide⟩)
  have i3 : ∀ r, Go.Lib.indexByte (n ++ 58 :: r) 58 = n.length := fun r => idx_first r i1
  have a4 := feed_value (most := most) (len := len) (dg := dg) (lf := lf) (t := t) v (n ++ [58] ++ [32]) (sum + n.length + 1 + 1) (by omega) (by omega) hvl (by rw [List.append_assoc]; rw [show ([58] : List UInt8) ++ [32] = 58 :: [32] from rfl, i3]; omega)
  have a5 : feedF (r6 most len dg lf (sum + n.length + 1 + 1 + v.length) t (n ++ [58] ++ [32] ++ v)) [13] = ([13].length, [], ⟨most, len, 7, none, dg, lf, false, 0, n ++ [58] ++ [32] ++ v, sum + n.length + 1 + 1 + v.length + 1, t⟩) := by
    rw [feed_one rfl (by simp [r6]) (by simp [r6])]
    have e13 : (((13 : UInt8).toNat : Nat) : Int) = 13 := rfl
    have w : IntKind.i64.wrap (sum + n.length + 1 + 1 + v.length + 1) = sum + n.length + 1 + 1 + v.length + 1 := Go.Proofs.YtdfgdpjlbcnkfaaDoorAbs.wp64 (by omega) (by omega)
    have i4 : Go.Lib.indexByte (n ++ [58] ++ [32] ++ v) 58 = n.length := by
      rw [List.append_assoc, List.append_assoc]; exact i3 _
    have hlen : (n ++ [58] ++ [32] ++ v).length ≠ 0 := by simp
    have : stepF (r6 most len dg lf (sum + n.length + 1 + 1 + v.length) t (n ++ [58] ++ [32] ++ v)) 13 = ⟨most, len, 7, none, dg, lf, false, 0, n ++ [58] ++ [32] ++ v, sum + n.length + 1 + 1 + v.length + 1, t⟩ := by
      unfold stepF r6
      rw [if_neg (by simp only; omega), if_neg (by simp only; omega), if_neg (by simp only; omega), if_neg (by simp only; omega), if_neg (by simp only; omega)]
      unfold trailerF
      rw [if_neg (by simp only; omega)]
      simp only [w, e13]
      rw [if_neg (fun q => hlen q.1), if_neg (by omega), if_neg (fun q => hlen q.1), if_pos ⟨trivial, by rw [i4]; omega⟩]
    rw [this]; rfl
  have a6 : feedF (⟨most, len, 7, none, dg, lf, false, 0, n ++ [58] ++ [32] ++ v, sum + n.length + 1 + 1 + v.length + 1, t⟩ : PRd) [10] = ([10].length, [], r6 most len dg lf (sum + (lineB f).length) (t ++ [f]) []) := by
    rw [feed_one rfl (by simp) (by simp)]
    have e10 : (((10 : UInt8).toNat : Nat) : Int) = 10 := rfl
    have w : IntKind.i64.wrap (sum + n.length + 1 + 1 + v.length + 1 + 1) = sum + n.length + 1 + 1 + v.length + 1 + 1 := Go.Proofs.YtdfgdpjlbcnkfaaDoorAbs.wp64 (by omega) (by omega)
    have i4 : Go.Lib.indexByte (n ++ [58] ++ [32] ++ v) 58 = n.length := by
      rw [List.append_assoc, List.append_assoc]; exact i3 _
    have hlen : (n ++ [58] ++ [32] ++ v).length ≠ 0 := by simp
    have e1 : (⟨((n ++ [58] ++ [32] ++ v).take n.length).toArray⟩ : ByteArray) = f.1 := by
      rw [List.append_assoc, List.append_assoc, List.take_left, ← hn]
    have e2 : trimB ⟨((n ++ [58] ++ [32] ++ v).drop (n.length + 1)).toArray⟩ = f.2 := by
      have : (n ++ [58] ++ [32] ++ v).drop (n.length + 1) = 32 :: v := by
        rw [List.append_assoc, List.append_assoc, List.drop_append]; simp
      rw [this, ← hv, trim_blank, h.trim]
    have : stepF (⟨most, len, 7, none, dg, lf, false, 0, n ++ [58] ++ [32] ++ v, sum + n.length + 1 + 1 + v.length + 1, t⟩ : PRd) 10 = r6 most len dg lf (sum + (lineB f).length) (t ++ [f]) [] := by
      unfold stepF
      rw [if_neg (by simp only; omega), if_neg (by simp only; omega), if_neg (by simp only; omega), if_neg (by simp only; omega), if_neg (by simp only; omega)]
      unfold trailerF
      rw [if_pos rfl]
      unfold endsF
      simp only [w, e10, i4, Int.toNat_natCast]
      rw [if_neg hlen, if_neg (show ¬ 8192 < sum + n.length + 1 + 1 + v.length + 1 + 1 by omega), if_neg (by simp), if_neg hlen, e1, e2]
      unfold r6
      rw [show sum + (n.length : Int) + 1 + 1 + v.length + 1 + 1 = sum + ((lineB f).length : Nat) by omega]
    rw [this]; rfl
  have hb : lineB f = n ++ ([58] ++ ([32] ++ (v ++ ([13] ++ [10])))) := by simp [lineB, hn, hv]
  rw [hb, feed_go a1, feed_go a2, feed_go a3, feed_go a4, feed_go a5, a6, ← hb]
  simp only [List.nil_append, Prod.mk.injEq, and_true]
  rw [hl]
  simp
  omega
theorem feed_lines {most len dg lf : Int} : ∀ (l t : List Fld) (sum : Int), (∀ f ∈ l, OkFld f) → 0 ≤ sum → sum + (linesB l).length ≤ 8192 → t.length + l.length ≤ 64 →
    feedF (r6 most len dg lf sum t []) (linesB l) = ((linesB l).length, [], r6 most len dg lf (sum + (linesB l).length) (t ++ l) [])
  | [], t, sum, _, _, _, _ => by simp [linesB, feedF]
  | f :: l, t, sum, h, h0, hs, ht => by
    have e : linesB (f :: l) = lineB f ++ linesB l := by simp [linesB]
    rw [e, List.length_append] at hs
    simp only [List.length_cons] at ht
    have a1 := feed_line (most := most) (len := len) (dg := dg) (lf := lf) (t := t) (h f (by simp)) h0 (by omega) (by omega)
    have a2 := feed_lines (most := most) (len := len) (dg := dg) (lf := lf) l (t ++ [f]) (sum + (lineB f).length) (fun g hg => h g (by simp [hg])) (by omega) (by omega) (by simp; omega)
    rw [e, feed_go a1, a2]
    simp only [List.length_append, List.nil_append, List.append_assoc, List.singleton_append]
    rw [show sum + ((lineB f).length : Int) + ((linesB l).length : Int) = sum + (((lineB f).length + (linesB l).length : Nat) : Int) by omega]
def lastB (l : List Fld) : List UInt8 := [48, 13, 10] ++ linesB l ++ [13, 10]
theorem lastT_feed {most len : Int} {l : List Fld} (rest : List UInt8) (h0 : 0 ≤ len) (h1 : len ≤ most) (h2 : most ≤ 1099511627776) (hl : ∀ f ∈ l, OkFld f) (hs : (linesB l).length ≤ 8192) (ht : l.length ≤ 64) :
    feedF (CR.at most len 0 []) (lastB l ++ rest) = ((lastB l).length, [], ⟨most, len, 8, none, 1, 0, false, 0, [], (linesB l).length, l⟩) := by
  have a1 : feedF (CR.at most len 0 []) [48] = ([48].length, [], ⟨most, len, 0, none, 1, ((0 : Nat) : Int), false, 0, [], 0, []⟩) := by
    have e1 := hexF_hexD 0 (by decide)
    have e2 := u64_or 0 0 (by decide) (by decide)
    have e4 : IntKind.i64.wrap ((0 : Int) + 1) = 1 := rfl
    have e5 : hexD 0 = 48 := by decide
    have e6 : decide ((0 : Int).fdiv (2 ^ (min (60 : Int).toNat IntKind.u64.bits)) = 0) = true := by rw [Int.zero_fdiv]; rfl
    rw [e5] at e1
    simp only [Int.natCast_zero, Nat.zero_mul, Nat.add_zero] at e1 e2
    have hs : stepF (CR.at most len 0 []) 48 = ⟨most, len, 0, none, 1, ((0 : Nat) : Int), false, 0, [], 0, []⟩ := by
      simp only [stepF, CR.at, if_true, sizeF, e1, true_and, e2, e4, e6, Bool.not_true, Bool.or_false, show ((0 : Int) < 16) = True from eq_true (by decide), Int.natCast_zero]
      rfl
    rw [feed_one rfl (by simp [CR.at]) (by simp [CR.at]), hs]; rfl
  have a2 : feedF (⟨most, len, 0, none, 1, ((0 : Nat) : Int), false, 0, [], 0, []⟩ : PRd) [13] = ([13].length, [], ⟨most, len, 2, none, 1, ((0 : Nat) : Int), false, 0, [], 0, []⟩) := by
    rw [feed_one rfl (by simp) (by simp), step_size13 _ _ _ _ _ _ (by omega) (by omega)]; rfl
  have a3 : feedF (⟨most, len, 2, none, 1, ((0 : Nat) : Int), false, 0, [], 0, []⟩ : PRd) [10] = ([10].length, [], r6 most len 1 0 0 [] []) := by
    rw [feed_one rfl (by simp) (by simp), step_beg _ _ _ _ _ _ h0 h1 h2, if_neg (by omega), if_pos rfl]; rfl
  have a4 := feed_lines (most := most) (len := len) (dg := 1) (lf := 0) l [] 0 hl (Int.le_refl _) (by omega) (by simpa using ht)
  rw [List.nil_append, Int.zero_add] at a4
  have a5 : feedF (r6 most len 1 0 ((linesB l).length : Nat) l []) [13] = ([13].length, [], ⟨most, len, 7, none, 1, 0, false, 0, [], ((linesB l).length : Nat), l⟩) := by
    rw [feed_one rfl (by simp [r6]) (by simp [r6])]; rfl
  have a6 : feedF (⟨most, len, 7, none, 1, 0, false, 0, [], ((linesB l).length : Nat), l⟩ : PRd) [10] = ([10].length, [], ⟨most, len, 8, none, 1, 0, false, 0, [], ((linesB l).length : Nat), l⟩) := by
    rw [feed_one rfl (by simp) (by simp)]
    have e10 : (((10 : UInt8).toNat : Nat) : Int) = 10 := rfl
    simp only [stepF, trailerF, endsF, e10]
    simp [show ¬ (8192 : Int) < ((linesB l).length : Nat) by omega]
  rw [show lastB l ++ rest = [48] ++ ([13] ++ ([10] ++ (linesB l ++ ([13] ++ ([10] ++ rest))))) by simp [lastB], feed_go a1, feed_go a2, feed_go a3, feed_go a4, feed_go a5, feed_go a6, feed_stop _ _ (.inr (.inr rfl))]
  simp [lastB]
  omega
def partsB (ps : List (List UInt8)) : List UInt8 := ps.flatMap encB
theorem parts_feed {most : Int} (h2 : most ≤ 1099511627776) : ∀ (ps : List (List UInt8)) (len : Int) (rest : List UInt8), 0 ≤ len → len + ps.flatten.length ≤ most →
    feedF (CR.at most len 0 []) (partsB ps ++ rest) = ((partsB ps).length + (feedF (CR.at most (len + ps.flatten.length) 0 []) rest).1, ps.flatten ++ (feedF (CR.at most (len + ps.flatten.length) 0 []) rest).2.1, (feedF (CR.at most (len + ps.flatten.length) 0 []) rest).2.2)
  | [], len, rest, h0, hl => by simp [partsB]
  | b :: ps, len, rest, h0, hl => by
    simp only [List.flatten_cons, List.length_append] at hl
    have e : partsB (b :: ps) ++ rest = encB b ++ (partsB ps ++ rest) := by simp [partsB]
    have a1 := chunk_feed (most := most) (len := len) (sum := 0) (t := []) b (partsB ps ++ rest) h0 h2 (by omega)
    have a2 := parts_feed h2 ps (len + b.length) rest (by omega) (by omega)
    rw [e, a1, a2]
    have e2 : len + (b.length : Int) + (ps.flatten.length : Int) = len + ((b :: ps).flatten.length : Nat) := by simp; omega
    have e3 : (partsB (b :: ps)).length = (encB b).length + (partsB ps).length := by simp [partsB]
    rw [e2, e3]
    simp [Nat.add_assoc]
end Go.Proofs.YtdfgdpjlbcnkfaaDoor.Q
namespace Go.Proofs.YtdfgdpjlbcnkfaaDoor.Q
open Go Go.Proofs.YtdfgdpjlbcnkfaaDoorAbs Go.Proofs
set_option linter.unusedVariables false
set_option linter.unusedSimpArgs false
set_option maxRecDepth 100000
set_option maxHeartbeats 4000000
attribute [local irreducible] Go.Proofs.YtdfgdpjlbcnkfaaDoorAbs.O Go.Proofs.YtdfgdpjlbcnkfaaDoorAbs.W Go.Proofs.YtdfgdpjlbcnkfaaDoorAbs.C Go.Proofs.YtdfgdpjlbcnkfaaDoorAbs.OK Go.Proofs.YtdfgdpjlbcnkfaaDoorAbs.OKF Go.Proofs.YtdfgdpjlbcnkfaaDoorAbs.OKT Go.Proofs.YtdfgdpjlbcnkfaaDoorAbs.then_ Go.Proofs.YtdfgdpjlbcnkfaaDoorAbs.inBlock_ Go.Proofs.YtdfgdpjlbcnkfaaDoorAbs.bodyQ Go.Proofs.YtdfgdpjlbcnkfaaDoorAbs.Cont
section
variable {I : Prims} {S : St} {Q : Value → St → Prop}
end
end Go.Proofs.YtdfgdpjlbcnkfaaDoor.Q
namespace Go.Proofs.YtdfgdpjlbcnkfaaDoor.Q
open Go Go.Proofs.YtdfgdpjlbcnkfaaDoorAbs Go.Proofs
set_option linter.unusedVariables false
set_option linter.unusedSimpArgs false
set_option maxRecDepth 100000
set_option maxHeartbeats 4000000
attribute [local irreducible] Go.Proofs.YtdfgdpjlbcnkfaaDoorAbs.O Go.Proofs.YtdfgdpjlbcnkfaaDoorAbs.W Go.Proofs.YtdfgdpjlbcnkfaaDoorAbs.C Go.Proofs.YtdfgdpjlbcnkfaaDoorAbs.OK Go.Proofs.YtdfgdpjlbcnkfaaDoorAbs.OKF Go.Proofs.YtdfgdpjlbcnkfaaDoorAbs.OKT Go.Proofs.YtdfgdpjlbcnkfaaDoorAbs.then_ Go.Proofs.YtdfgdpjlbcnkfaaDoorAbs.inBlock_ Go.Proofs.YtdfgdpjlbcnkfaaDoorAbs.bodyQ Go.Proofs.YtdfgdpjlbcnkfaaDoorAbs.Cont
def geB : Blk := ⟨[.iface 102 (.agg #[.pointer (some ⟨7, 24, some 0⟩)])], 0, false, 0⟩
structure HB (I : Prims) : Prop extends HW I where
  digits : ∀ (S : St) (n : Int) (Q : Value → St → Prop), 0 ≤ n → n < 18446744073709551616 → (∀ s, Q (.string s) S) → C Tryd.prog I 65 #[.int .u64 n, .int .u64 10] S Q
  num13 : ∀ (S : St) (e : Option Int) (Q : Value → St → Prop), S.get 0 = some geB → Q (.int .i64 (numF e)) S → C Tryd.prog I 22 #[errW e] S Q
  sure : ∀ (S : St) (Q : Value → St → Prop), Q (.bool true) S → C Tryd.prog I 11 #[] S Q
section
variable {I : Prims} {S : St} {Q : Value → St → Prop}
end
end Go.Proofs.YtdfgdpjlbcnkfaaDoor.Q
namespace Go.Proofs.YtdfgdpjlbcnkfaaDoor.Q
open Go Go.Proofs.YtdfgdpjlbcnkfaaDoorAbs Go.Proofs
set_option linter.unusedVariables false
set_option linter.unusedSimpArgs false
set_option maxRecDepth 100000
set_option maxHeartbeats 4000000
attribute [local irreducible] Go.Proofs.YtdfgdpjlbcnkfaaDoorAbs.O Go.Proofs.YtdfgdpjlbcnkfaaDoorAbs.W Go.Proofs.YtdfgdpjlbcnkfaaDoorAbs.C Go.Proofs.YtdfgdpjlbcnkfaaDoorAbs.OK Go.Proofs.YtdfgdpjlbcnkfaaDoorAbs.OKF Go.Proofs.YtdfgdpjlbcnkfaaDoorAbs.OKT Go.Proofs.YtdfgdpjlbcnkfaaDoorAbs.then_ Go.Proofs.YtdfgdpjlbcnkfaaDoorAbs.inBlock_ Go.Proofs.YtdfgdpjlbcnkfaaDoorAbs.bodyQ Go.Proofs.YtdfgdpjlbcnkfaaDoorAbs.Cont
structure BR where
  kind : Int
  length : Int
  most : Int
  len : Int
  done : Bool
  err : Option Int
def BR.cells (r : BR) (ch : Value) : List Value := [.int .i64 r.kind, .int .i64 r.length, .int .i64 r.most, .int .i64 r.len, ch, .bool r.done, errW r.err]
def BR.fresh (k l most : Int) : BR := ⟨k, l, most, 0, decide (k = 0) || (decide (k = 1) && decide (l = 0)), none⟩
section
variable {I : Prims} {S : St} {Q : Value → St → Prop}
end
end Go.Proofs.YtdfgdpjlbcnkfaaDoor.Q
namespace Go.Proofs.YtdfgdpjlbcnkfaaDoor.Q
open Go Go.Proofs.YtdfgdpjlbcnkfaaDoorAbs Go.Proofs
set_option linter.unusedVariables false
set_option linter.unusedSimpArgs false
set_option maxRecDepth 100000
set_option maxHeartbeats 4000000
attribute [local irreducible] Go.Proofs.YtdfgdpjlbcnkfaaDoorAbs.O Go.Proofs.YtdfgdpjlbcnkfaaDoorAbs.W Go.Proofs.YtdfgdpjlbcnkfaaDoorAbs.C Go.Proofs.YtdfgdpjlbcnkfaaDoorAbs.OK Go.Proofs.YtdfgdpjlbcnkfaaDoorAbs.OKF Go.Proofs.YtdfgdpjlbcnkfaaDoorAbs.OKT Go.Proofs.YtdfgdpjlbcnkfaaDoorAbs.then_ Go.Proofs.YtdfgdpjlbcnkfaaDoorAbs.inBlock_ Go.Proofs.YtdfgdpjlbcnkfaaDoorAbs.bodyQ Go.Proofs.YtdfgdpjlbcnkfaaDoorAbs.Cont
theorem sl_src {S : St} {v : Value} {xs : List UInt8} (hx : Sl S v xs) : asrc Tryd.prog S 22 1 v = some (xs.length, u8v xs) := by
  obtain ⟨a, c, rfl, hv0, hv⟩ := hx
  by_cases hne : xs = []
  · subst hne
    rcases a with _ | ⟨b, o, L⟩
    · rw [hv0 rfl]; simp [asrc, u22, u8v]
    · simp [asrc, u22, u8v]
  · obtain ⟨b, o, L, cs, el, own, m, rfl, _, h1, h2, h3, h4⟩ := hv hne
    have hpos : 0 < xs.length := List.length_pos_iff.2 hne
    simp only [asrc, u22]
    rw [if_neg (by omega)]
    have : aread S ⟨b, o, some L⟩ (xs.length * 1) = some (u8v xs) := by
      have hlen := congrArg List.length h3
      simp [u8v] at hlen
      unfold aread
      simp only [h1]
      rw [if_pos ⟨fun q => ⟨(h2 q).1, by have := (h2 q).2; show o + xs.length * 1 ≤ L; omega⟩, by show o + xs.length * 1 ≤ cs.length; omega⟩, Nat.mul_one, h3]
    simp only [this]
    rw [if_pos (u8v_one _)]
section
variable {I : Prims} {S : St} {Q : Value → St → Prop}
end
end Go.Proofs.YtdfgdpjlbcnkfaaDoor.Q
namespace Go.Proofs.YtdfgdpjlbcnkfaaDoor.Q
open Go Go.Proofs.YtdfgdpjlbcnkfaaDoorAbs Go.Proofs
set_option linter.unusedVariables false
set_option linter.unusedSimpArgs false
set_option maxRecDepth 100000
set_option maxHeartbeats 4000000
attribute [local irreducible] Go.Proofs.YtdfgdpjlbcnkfaaDoorAbs.O Go.Proofs.YtdfgdpjlbcnkfaaDoorAbs.W Go.Proofs.YtdfgdpjlbcnkfaaDoorAbs.C Go.Proofs.YtdfgdpjlbcnkfaaDoorAbs.OK Go.Proofs.YtdfgdpjlbcnkfaaDoorAbs.OKF Go.Proofs.YtdfgdpjlbcnkfaaDoorAbs.OKT Go.Proofs.YtdfgdpjlbcnkfaaDoorAbs.then_ Go.Proofs.YtdfgdpjlbcnkfaaDoorAbs.inBlock_ Go.Proofs.YtdfgdpjlbcnkfaaDoorAbs.bodyQ Go.Proofs.YtdfgdpjlbcnkfaaDoorAbs.Cont
structure BC (S : St) (b bc : Nat) (r : BR) (p : PRd) (tv lv : Value) : Prop where
  cell : ∃ m, m ≤ 7 ∧ S.get b = some ⟨r.cells (.pointer (some ⟨bc, 0, some 11⟩)), 73, true, m⟩
  hn : b < S.next
  ne : b ≠ bc
  t : blkOf tv ≠ some b
  l : blkOf lv ≠ some b
  rd : ∃ m, Rd S bc p tv lv m
  inv : RInv p
section
variable {I : Prims} {S : St} {Q : Value → St → Prop}
end
end Go.Proofs.YtdfgdpjlbcnkfaaDoor.Q
namespace Go.Proofs.YtdfgdpjlbcnkfaaDoor.Q
open Go Go.Proofs.YtdfgdpjlbcnkfaaDoorAbs Go.Proofs
set_option linter.unusedVariables false
set_option linter.unusedSimpArgs false
set_option maxRecDepth 100000
set_option maxHeartbeats 4000000
attribute [local irreducible] Go.Proofs.YtdfgdpjlbcnkfaaDoorAbs.O Go.Proofs.YtdfgdpjlbcnkfaaDoorAbs.W Go.Proofs.YtdfgdpjlbcnkfaaDoorAbs.C Go.Proofs.YtdfgdpjlbcnkfaaDoorAbs.OK Go.Proofs.YtdfgdpjlbcnkfaaDoorAbs.OKF Go.Proofs.YtdfgdpjlbcnkfaaDoorAbs.OKT Go.Proofs.YtdfgdpjlbcnkfaaDoorAbs.then_ Go.Proofs.YtdfgdpjlbcnkfaaDoorAbs.inBlock_ Go.Proofs.YtdfgdpjlbcnkfaaDoorAbs.bodyQ Go.Proofs.YtdfgdpjlbcnkfaaDoorAbs.Cont
section
variable {I : Prims} {S : St} {Q : Value → St → Prop}
end
end Go.Proofs.YtdfgdpjlbcnkfaaDoor.Q
namespace Go.Proofs.YtdfgdpjlbcnkfaaDoor.Q
open Go Go.Proofs.YtdfgdpjlbcnkfaaDoorAbs Go.Proofs
set_option linter.unusedVariables false
set_option linter.unusedSimpArgs false
set_option maxRecDepth 100000
set_option maxHeartbeats 4000000
attribute [local irreducible] Go.Proofs.YtdfgdpjlbcnkfaaDoorAbs.O Go.Proofs.YtdfgdpjlbcnkfaaDoorAbs.W Go.Proofs.YtdfgdpjlbcnkfaaDoorAbs.C Go.Proofs.YtdfgdpjlbcnkfaaDoorAbs.OK Go.Proofs.YtdfgdpjlbcnkfaaDoorAbs.OKF Go.Proofs.YtdfgdpjlbcnkfaaDoorAbs.OKT Go.Proofs.YtdfgdpjlbcnkfaaDoorAbs.then_ Go.Proofs.YtdfgdpjlbcnkfaaDoorAbs.inBlock_ Go.Proofs.YtdfgdpjlbcnkfaaDoorAbs.bodyQ Go.Proofs.YtdfgdpjlbcnkfaaDoorAbs.Cont
inductive RB (S : St) (b : Nat) : BR → Option PRd → (Nat → Prop) → Prop
  | plain {r : BR} (m : Nat) (hm : m ≤ 7) (hk : r.kind ≠ 2) (hb : S.get b = some ⟨r.cells (.pointer none), 73, true, m⟩) (hn : b < S.next) : RB S b r none (fun i => i = b)
  | chunk {r : BR} {p : PRd} (bc : Nat) (tv lv : Value) (hk : r.kind = 2) (hB : BC S b bc r p tv lv) : RB S b r (some p) (fun i => i = b ∨ i = bc ∨ blkOf tv = some i ∨ blkOf lv = some i)
structure Fp (S S' : St) (F F' : Nat → Prop) : Prop where
  next : S.next ≤ S'.next
  keep : ∀ i, i < S.next → ¬ F i → S'.get i = S.get i
  fp : ∀ i, F' i → F i ∨ S.next ≤ i
theorem Fp.refl {S : St} {F : Nat → Prop} : Fp S S F F := ⟨Nat.le_refl _, fun _ _ _ => rfl, fun _ h => .inl h⟩
theorem BC.kept {S S' : St} {b bc : Nat} {r : BR} {p : PRd} {tv lv : Value} (h : BC S b bc r p tv lv) {o : Option Nat} (k : Kept S S' o) (ho : ∀ i, o = some i → i ≠ b ∧ i ≠ bc ∧ blkOf tv ≠ some i ∧ blkOf lv ≠ some i) : BC S' b bc r p tv lv := by
  obtain ⟨⟨m, hm, hb⟩, hn, ne, t, l, ⟨mr, rd⟩, inv⟩ := h
  exact ⟨⟨m, hm, (k.2 b hn (fun e => (ho b e).1 rfl)).trans hb⟩, Nat.lt_of_lt_of_le hn k.1, ne, t, l, ⟨mr, rd.kept k (fun i e => (ho i e).2)⟩, inv⟩
theorem RB.kept {S S' : St} {b : Nat} {r : BR} {p : Option PRd} {F : Nat → Prop} (h : RB S b r p F) {o : Option Nat} (k : Kept S S' o) (ho : ∀ i, o = some i → ¬ F i) : RB S' b r p F := by
  cases h with
  | plain m hm hk hb hn => exact .plain m hm hk ((k.2 b hn (fun e => ho b e rfl)).trans hb) (Nat.lt_of_lt_of_le hn k.1)
  | chunk bc tv lv hk hB => exact .chunk bc tv lv hk (hB.kept k (fun i e => by have := ho i e; simp only [not_or] at this; exact this))
section
variable {I : Prims} {S : St} {Q : Value → St → Prop}
end
end Go.Proofs.YtdfgdpjlbcnkfaaDoor.Q
namespace Go.Proofs.YtdfgdpjlbcnkfaaDoor.Q
open Go Go.Proofs.YtdfgdpjlbcnkfaaDoorAbs Go.Proofs
set_option linter.unusedVariables false
set_option linter.unusedSimpArgs false
end Go.Proofs.YtdfgdpjlbcnkfaaDoor.Q
namespace Go.Proofs.YtdfgdpjlbcnkfaaDoor.Q
open Go Go.Proofs.YtdfgdpjlbcnkfaaDoorAbs Go.Proofs
set_option linter.unusedVariables false
set_option linter.unusedSimpArgs false
set_option maxRecDepth 100000
set_option maxHeartbeats 4000000
attribute [local irreducible] Go.Proofs.YtdfgdpjlbcnkfaaDoorAbs.O Go.Proofs.YtdfgdpjlbcnkfaaDoorAbs.W Go.Proofs.YtdfgdpjlbcnkfaaDoorAbs.C Go.Proofs.YtdfgdpjlbcnkfaaDoorAbs.OK Go.Proofs.YtdfgdpjlbcnkfaaDoorAbs.OKF Go.Proofs.YtdfgdpjlbcnkfaaDoorAbs.OKT Go.Proofs.YtdfgdpjlbcnkfaaDoorAbs.then_ Go.Proofs.YtdfgdpjlbcnkfaaDoorAbs.inBlock_ Go.Proofs.YtdfgdpjlbcnkfaaDoorAbs.bodyQ Go.Proofs.YtdfgdpjlbcnkfaaDoorAbs.Cont
section
variable {I : Prims} {S : St} {Q : Value → St → Prop}
end
end Go.Proofs.YtdfgdpjlbcnkfaaDoor.Q
namespace Go.Proofs.YtdfgdpjlbcnkfaaDoor.Q
open Go Go.Proofs.YtdfgdpjlbcnkfaaDoorAbs Go.Proofs
set_option linter.unusedVariables false
set_option linter.unusedSimpArgs false
set_option maxRecDepth 100000
set_option maxHeartbeats 4000000
attribute [local irreducible] Go.Proofs.YtdfgdpjlbcnkfaaDoorAbs.O Go.Proofs.YtdfgdpjlbcnkfaaDoorAbs.W Go.Proofs.YtdfgdpjlbcnkfaaDoorAbs.C Go.Proofs.YtdfgdpjlbcnkfaaDoorAbs.OK Go.Proofs.YtdfgdpjlbcnkfaaDoorAbs.OKF Go.Proofs.YtdfgdpjlbcnkfaaDoorAbs.OKT Go.Proofs.YtdfgdpjlbcnkfaaDoorAbs.then_ Go.Proofs.YtdfgdpjlbcnkfaaDoorAbs.inBlock_ Go.Proofs.YtdfgdpjlbcnkfaaDoorAbs.bodyQ Go.Proofs.YtdfgdpjlbcnkfaaDoorAbs.Cont
section
variable {I : Prims} {S : St} {Q : Value → St → Prop}
theorem own_fp {S S' : St} {el sz n : Nat} {v : Value} {xs : List Value} {F1 F1' : Nat → Prop} (h : Own el sz S v n xs) (k : Fp S S' F1 F1') (hd : ∀ i, blkOf v = some i → ¬ F1 i) : Own el sz S' v n xs := by
  refine ⟨h.1, h.2.1, ?_⟩
  rcases h.2.2 with q | ⟨b, m, rfl, h1, h2, h3, h4⟩
  · exact .inl q
  · exact .inr ⟨b, m, rfl, (k.keep b h3 (hd b rfl)).trans h1, h2, Nat.lt_of_lt_of_le h3 k.next, h4⟩
theorem RB.fp {S S' : St} {b : Nat} {r : BR} {p : Option PRd} {F F1 F1' : Nat → Prop} (h : RB S b r p F) (k : Fp S S' F1 F1') (hd : ∀ i, F i → ¬ F1 i) : RB S' b r p F := by
  cases h with
  | plain m hm hk hb hn => exact .plain m hm hk ((k.keep b hn (hd b rfl)).trans hb) (Nat.lt_of_lt_of_le hn k.next)
  | chunk bc tv lv hk hB =>
    obtain ⟨⟨m, hm, hb⟩, hn, ne, t, l, ⟨mr, rd⟩, inv⟩ := hB
    exact .chunk bc tv lv hk ⟨⟨m, hm, (k.keep b hn (hd b (.inl rfl))).trans hb⟩, Nat.lt_of_lt_of_le hn k.next, ne, t, l, ⟨mr, (k.keep bc rd.hn (hd bc (.inr (.inl rfl)))).trans rd.cell, rd.hm, Nat.lt_of_lt_of_le rd.hn k.next,
      own_fp rd.text k (fun i e => hd i (.inr (.inr (.inl e)))), own_fp rd.trl k (fun i e => hd i (.inr (.inr (.inr e)))), rd.n1, rd.n2, rd.n3⟩, inv⟩
theorem RB.lt {S : St} {b : Nat} {r : BR} {p : Option PRd} {F : Nat → Prop} (h : RB S b r p F) : ∀ i, F i → i < S.next := by
  cases h with
  | plain m hm hk hb hn => intro i e; rw [show i = b from e]; exact hn
  | chunk bc tv lv hk hB =>
    obtain ⟨m, rd⟩ := hB.rd
    rintro i (e | e | e | e)
    · rw [e]; exact hB.hn
    · rw [e]; exact rd.hn
    · exact own_lt rd.text e
    · exact own_lt rd.trl e
end
end Go.Proofs.YtdfgdpjlbcnkfaaDoor.Q
namespace Go.Proofs.YtdfgdpjlbcnkfaaDoor.Q
open Go Go.Proofs.YtdfgdpjlbcnkfaaDoorAbs Go.Proofs
set_option linter.unusedVariables false
set_option linter.unusedSimpArgs false
set_option maxRecDepth 100000
set_option maxHeartbeats 4000000
attribute [local irreducible] Go.Proofs.YtdfgdpjlbcnkfaaDoorAbs.O Go.Proofs.YtdfgdpjlbcnkfaaDoorAbs.W Go.Proofs.YtdfgdpjlbcnkfaaDoorAbs.C Go.Proofs.YtdfgdpjlbcnkfaaDoorAbs.OK Go.Proofs.YtdfgdpjlbcnkfaaDoorAbs.OKF Go.Proofs.YtdfgdpjlbcnkfaaDoorAbs.OKT Go.Proofs.YtdfgdpjlbcnkfaaDoorAbs.then_ Go.Proofs.YtdfgdpjlbcnkfaaDoorAbs.inBlock_ Go.Proofs.YtdfgdpjlbcnkfaaDoorAbs.bodyQ Go.Proofs.YtdfgdpjlbcnkfaaDoorAbs.Cont
section
variable {I : Prims} {S : St} {Q : Value → St → Prop}
theorem own_cat {S : St} {v : Value} {a b : List UInt8} (h : Own 5 1 S v (a.length + b.length) (u8v a ++ u8v b)) : Own 5 1 S v (a ++ b).length (u8v (a ++ b)) := by
  rw [List.length_append, show u8v (a ++ b) = u8v a ++ u8v b by simp [u8v]]
  exact h
end
end Go.Proofs.YtdfgdpjlbcnkfaaDoor.Q
namespace Go.Proofs.YtdfgdpjlbcnkfaaDoor.Q
open Go Go.Proofs.YtdfgdpjlbcnkfaaDoorAbs Go.Proofs
set_option linter.unusedVariables false
set_option linter.unusedSimpArgs false
set_option maxRecDepth 100000
set_option maxHeartbeats 4000000
attribute [local irreducible] Go.Proofs.YtdfgdpjlbcnkfaaDoorAbs.O Go.Proofs.YtdfgdpjlbcnkfaaDoorAbs.W Go.Proofs.YtdfgdpjlbcnkfaaDoorAbs.C Go.Proofs.YtdfgdpjlbcnkfaaDoorAbs.OK Go.Proofs.YtdfgdpjlbcnkfaaDoorAbs.OKF Go.Proofs.YtdfgdpjlbcnkfaaDoorAbs.OKT Go.Proofs.YtdfgdpjlbcnkfaaDoorAbs.then_ Go.Proofs.YtdfgdpjlbcnkfaaDoorAbs.inBlock_ Go.Proofs.YtdfgdpjlbcnkfaaDoorAbs.bodyQ Go.Proofs.YtdfgdpjlbcnkfaaDoorAbs.Cont
structure Acc (S0 S : St) (v : Value) (a : List UInt8) : Prop where
  kept : Kept S0 S none
  own : Own 5 1 S v a.length (u8v a)
  new : ∀ i, blkOf v = some i → S0.next ≤ i
theorem Acc.nil (S : St) : Acc S S (.slice none 0 0) [] := ⟨Kept.refl _ _, Own.nil _ _ _, fun _ q => by cases q⟩
theorem Acc.keep {S0 S S' : St} {v : Value} {a : List UInt8} (h : Acc S0 S v a) (k : Kept S S' none) : Acc S0 S' v a := ⟨h.kept.trans k, h.own.kept k (.inl rfl), h.new⟩
section
variable {I : Prims} {S S0 : St} {Q : Value → St → Prop} {e : Env}
theorem acc_step {S' : St} {v v' : Value} {a c : List UInt8} (h : Acc S0 S v a) (hO : Own 5 1 S' v' (a.length + c.length) (u8v a ++ u8v c)) (hK : Kept S S' (blkOf v)) (hB : blkOf v' = blkOf v ∨ ∃ i, S.next ≤ i ∧ blkOf v' = some i) : Acc S0 S' v' (a ++ c) := by
  refine ⟨⟨Nat.le_trans h.kept.1 hK.1, fun i hi _ => (hK.2 i (Nat.lt_of_lt_of_le hi h.kept.1) (fun q => ?_)).trans (h.kept.2 i hi (by simp))⟩, own_cat hO, fun i q => ?_⟩
  · have := h.new i q; omega
  · rcases hB with z | ⟨j, z1, z2⟩
    · exact h.new i (z ▸ q)
    · rw [z2] at q; cases q; have := h.kept.1; omega
theorem O_accB {ops : Array Oper} {r : List Oper} {dst : Option Tmp} {ty : TypeId} {pos : String} {after : Array Edge} {s x : Operand} {a c : List UInt8} {R : Env → St → Prop} (ha : Acc S0 S (e.ev s) a) (hx : Sl S (e.ev x) c) (hl : a.length + c.length ≤ 1099511627776)
    (hk : ∀ v' S', Acc S0 S' v' (a ++ c) → Kept S S' (blkOf (e.ev s)) → O Tryd.prog I ops r [] R (e.putO dst v') S') : O Tryd.prog I ops (⟨dst, .call ⟨.builtin .append, #[s, x], #[22, 22]⟩, ty, pos, after, none⟩ :: r) [] R e S :=
  O_append (P := Tryd.prog) (elem := 5) (size := 1) (bytes := 1) (n := a.length) (m := c.length) (xs := u8v a) (ys := u8v c) u22 sz5 by5 ze5 ⟨by decide, by decide, rfl⟩ ha.own (sl_src hx) ⟨by simp [u8v], u8v_one _⟩ (by omega) fun v' S' hO hK hB => hk v' S' (acc_step ha hO hK hB) hK
theorem O_accS {ops : Array Oper} {r : List Oper} {dst : Option Tmp} {ty : TypeId} {pos : String} {after : Array Edge} {s x : Operand} {a c : List UInt8} {R : Env → St → Prop} (ha : Acc S0 S (e.ev s) a) (hx : e.ev x = .string ⟨c.toArray⟩) (hl : a.length + c.length ≤ 1099511627776)
    (hk : ∀ v' S', Acc S0 S' v' (a ++ c) → Kept S S' (blkOf (e.ev s)) → O Tryd.prog I ops r [] R (e.putO dst v') S') : O Tryd.prog I ops (⟨dst, .call ⟨.builtin .append, #[s, x], #[22, 9]⟩, ty, pos, after, none⟩ :: r) [] R e S :=
  O_append (P := Tryd.prog) (elem := 5) (size := 1) (bytes := 1) (n := a.length) (m := c.length) (xs := u8v a) (ys := u8v c) u22 sz5 by5 ze5 ⟨by decide, by decide, rfl⟩ ha.own (by rw [hx]; simp [asrc, u9, byteCells, u8v, ByteArray.size]) ⟨by simp [u8v], u8v_one _⟩ (by omega) fun v' S' hO hK hB => hk v' S' (acc_step ha hO hK hB) hK
theorem Sl.len {S : St} {v : Value} {xs : List UInt8} (h : Sl S v xs) : ∃ a c, v = .slice a xs.length c := by obtain ⟨a, c, e, _⟩ := h; exact ⟨a, c, e⟩
theorem AppendUint_C (h : HI I) (ht : HTZ I) (h6 : S.get 6 = some ⟨tab64, 0, false, 0⟩) (h6n : 6 < S.next) {n : Nat} (h0 : 0 < n) (hn : n < 1099511627776)
    (hQ : ∀ v' S', Acc S S' v' (hexL n) → Q v' S') : C Tryd.prog I 76 #[.slice none 0 0, .int .u64 n, .int .i64 16] S Q := by
  refine C_body (rs := [.tmp 6]) (h.no 76 (by decide)) Tryd.func76 rfl rfl ok76 ?_
  obtain ⟨u22, sz5, u5, u9, u3, u29, u34, u33, sz3, u4, u41, sz66, u46, sz28, u47, u52, sz22, sz62, sz24, sz59, u59, sz60, u60, sz41, sz58, u58, sz73, sz34, sz4, sz9, sz83, u88, sz86, u112, sz118, u118, u2, sz126, u126, u21, sz130, u130, u139, u140, sz141, u141, u145, u148, sz147, u154, u155⟩ := UF
  repeat' (first
    | (with_reducible first | refine W_pushC fun K hK => ?_ | refine W_blockI ?_ | refine W_scopeI ?_ | refine W_labelI ?_ | refine W_skipI ?_ | refine W_retI ?_ | refine W_exitI ?_ | refine then_normalI ?_ | refine then_retI ?_ | refine then_exitI ?_ | refine inBlock_normalI ?_ | refine inBlock_retI ?_ | refine inBlock_exitI ?_ | refine inBlock_exitN (by decide) ?_)
    | ((with_reducible first | refine bodyQ_normal0 ?_ | refine bodyQ_normal1 ?_ | refine bodyQ_normal2 ?_ | refine bodyQ_normal3 ?_ | refine bodyQ_normal4 ?_ | refine bodyQ_ret0 ?_ | refine bodyQ_ret1 ?_ | refine bodyQ_ret2 ?_ | refine bodyQ_ret3 ?_ | refine bodyQ_ret4 ?_); (try simp only [EVB, Nat.reduceEqDiff, reduceIte]))
    | ((with_reducible show C _ _ _ _ _ _); first | (refine Bits_C h ht h6 h6n h0 hn fun v S1 hO hKp hN => ?_))
    | (with_reducible refine Cont.use (by assumption) ?_)
    | (with_reducible first | refine hcA ?_ | refine hcB ?_)
    | ((with_reducible first | refine W_condG fun cA cB hcA hcB => ?_ | refine W_regionI ?_ | show O _ _ _ _ _ _ _ _ | show OK _ _ _ _ _ _ _ _ _ | show OKF _ _ _ _ _ _ _ _ _ _ | show OKT _ _ _ _ _ _ _ _ _ _ _ _ | show _ ∧ _ | show CG _ _ _ | show CB _ _ _); simp (disch := first | ((with_reducible show isStop _ = false); rfl) | ((with_reducible show isP _ = true); rfl) | ((with_reducible show (isStop _ || isP _) = false); rfl) | assumption | (simp only [GSB, Nat.reduceEqDiff, reduceIte]; done) | omega | (with_reducible decide) | (simp only [DSB, Go.Proofs.YtdfgdpjlbcnkfaaDoorAbs.oneC, Nat.reduceAdd, Nat.reduceLeDiff] <;> omega) | fail) only [↓DN, ↓reduceIte, UP, CGB, Int.reduceEq, Int.reduceLT, Int.reduceLE, Nat.reduceEqDiff, Nat.reduceAdd, Nat.reduceMul, Nat.reduceSub, Int.reduceToNat, Nat.reduceLeDiff, PF, isStop, isP, goInt, beq_self_eq_true, decide_true, decide_false, Int.toNat_natCast, Int.natCast_zero, nn_eq, nn_ne])
    | ((with_reducible refine CB_intro (fun ht => hcA ?_) (fun ht => hcB ?_)) <;> (first | (simp only [Bool.true_eq_false, Bool.false_eq_true] at ht; done) | ((try simp only [Bool.not_eq_true', Bool.not_eq_false'] at ht); (try simp only [ht]); (try simp only [HTN] at ht); (try (exfalso; omega)))))
    | ((with_reducible refine W_regionI ?_); simp only [List.append_eq, List.cons_append, List.nil_append])
    | (with_reducible refine O_splitG fun cA cB hcA hcB => ?_)
    | (exact hQ _ _ ⟨hKp, hO, hN⟩))
theorem AppendIntI_C (h : HI I) (ht : HTZ I) (h6 : S.get 6 = some ⟨tab64, 0, false, 0⟩) (h6n : 6 < S.next) {n : Nat} (h0 : 0 < n) (hn : n < 1099511627776)
    (hQ : ∀ v' S', Acc S S' v' (hexL n) → Q v' S') : C Tryd.prog I 57 #[.slice none 0 0, .int .i64 n, .int .i64 16] S Q := by
  refine C_body (rs := [.tmp 6]) (h.no 57 (by decide)) Tryd.func57 rfl rfl ok57 ?_
  obtain ⟨u22, sz5, u5, u9, u3, u29, u34, u33, sz3, u4, u41, sz66, u46, sz28, u47, u52, sz22, sz62, sz24, sz59, u59, sz60, u60, sz41, sz58, u58, sz73, sz34, sz4, sz9, sz83, u88, sz86, u112, sz118, u118, u2, sz126, u126, u21, sz130, u130, u139, u140, sz141, u141, u145, u148, sz147, u154, u155⟩ := UF
  have hw : IntKind.u64.wrap (n : Int) = (n : Int) := Go.Proofs.YtdfgdpjlbcnkfaaDoorAbs.wpu64 (by omega) (by omega)
  have hd : decide ((n : Int) < 0) = false := decide_eq_false (by omega)
  repeat' (first
    | (with_reducible first | refine W_pushC fun K hK => ?_ | refine W_blockI ?_ | refine W_scopeI ?_ | refine W_labelI ?_ | refine W_skipI ?_ | refine W_retI ?_ | refine W_exitI ?_ | refine then_normalI ?_ | refine then_retI ?_ | refine then_exitI ?_ | refine inBlock_normalI ?_ | refine inBlock_retI ?_ | refine inBlock_exitI ?_ | refine inBlock_exitN (by decide) ?_)
    | ((with_reducible first | refine bodyQ_normal0 ?_ | refine bodyQ_normal1 ?_ | refine bodyQ_normal2 ?_ | refine bodyQ_normal3 ?_ | refine bodyQ_normal4 ?_ | refine bodyQ_ret0 ?_ | refine bodyQ_ret1 ?_ | refine bodyQ_ret2 ?_ | refine bodyQ_ret3 ?_ | refine bodyQ_ret4 ?_); (try simp only [EVB, Nat.reduceEqDiff, reduceIte]))
    | ((with_reducible show C _ _ _ _ _ _); first | (refine AppendUint_C h ht h6 h6n h0 hn fun v S1 hA => ?_))
    | (with_reducible refine Cont.use (by assumption) ?_)
    | (with_reducible first | refine hcA ?_ | refine hcB ?_)
    | ((with_reducible first | refine W_condG fun cA cB hcA hcB => ?_ | refine W_regionI ?_ | show O _ _ _ _ _ _ _ _ | show OK _ _ _ _ _ _ _ _ _ | show OKF _ _ _ _ _ _ _ _ _ _ | show OKT _ _ _ _ _ _ _ _ _ _ _ _ | show _ ∧ _ | show CG _ _ _ | show CB _ _ _); simp (disch := first | ((with_reducible show isStop _ = false); rfl) | ((with_reducible show isP _ = true); rfl) | ((with_reducible show (isStop _ || isP _) = false); rfl) | assumption | (simp only [GSB, Nat.reduceEqDiff, reduceIte]; done) | omega | (with_reducible decide) | (simp only [DSB, Go.Proofs.YtdfgdpjlbcnkfaaDoorAbs.oneC, Nat.reduceAdd, Nat.reduceLeDiff] <;> omega) | fail) only [↓DN, ↓reduceIte, UP, CGB, Int.reduceEq, Int.reduceLT, Int.reduceLE, Nat.reduceEqDiff, Nat.reduceAdd, Nat.reduceMul, Nat.reduceSub, Int.reduceToNat, Nat.reduceLeDiff, PF, isStop, isP, goInt, beq_self_eq_true, decide_true, decide_false, Int.toNat_natCast, Int.natCast_zero, nn_eq, nn_ne, hw, hd])
    | ((with_reducible refine CB_intro (fun ht => hcA ?_) (fun ht => hcB ?_)) <;> (first | (simp only [Bool.true_eq_false, Bool.false_eq_true] at ht; done) | ((try simp only [Bool.not_eq_true', Bool.not_eq_false'] at ht); (try simp only [ht]); (try simp only [HTN] at ht); (try (exfalso; omega)))))
    | ((with_reducible refine W_regionI ?_); simp only [List.append_eq, List.cons_append, List.nil_append])
    | (with_reducible refine O_splitG fun cA cB hcA hcB => ?_)
    | (exact hQ _ _ hA))
theorem AppendInt_C (h : HI I) (ht : HTZ I) (h6 : S.get 6 = some ⟨tab64, 0, false, 0⟩) (h6n : 6 < S.next) {n : Nat} (h0 : 0 < n) (hn : n < 1099511627776)
    (hQ : ∀ v' S', Acc S S' v' (hexL n) → Q v' S') : C Tryd.prog I 41 #[.slice none 0 0, .int .i64 n, .int .i64 16] S Q := by
  refine C_body (rs := [.tmp 6]) (h.no 41 (by decide)) Tryd.func41 rfl rfl ok41 ?_
  obtain ⟨u22, sz5, u5, u9, u3, u29, u34, u33, sz3, u4, u41, sz66, u46, sz28, u47, u52, sz22, sz62, sz24, sz59, u59, sz60, u60, sz41, sz58, u58, sz73, sz34, sz4, sz9, sz83, u88, sz86, u112, sz118, u118, u2, sz126, u126, u21, sz130, u130, u139, u140, sz141, u141, u145, u148, sz147, u154, u155⟩ := UF
  repeat' (first
    | (with_reducible first | refine W_pushC fun K hK => ?_ | refine W_blockI ?_ | refine W_scopeI ?_ | refine W_labelI ?_ | refine W_skipI ?_ | refine W_retI ?_ | refine W_exitI ?_ | refine then_normalI ?_ | refine then_retI ?_ | refine then_exitI ?_ | refine inBlock_normalI ?_ | refine inBlock_retI ?_ | refine inBlock_exitI ?_ | refine inBlock_exitN (by decide) ?_)
    | ((with_reducible first | refine bodyQ_normal0 ?_ | refine bodyQ_normal1 ?_ | refine bodyQ_normal2 ?_ | refine bodyQ_normal3 ?_ | refine bodyQ_normal4 ?_ | refine bodyQ_ret0 ?_ | refine bodyQ_ret1 ?_ | refine bodyQ_ret2 ?_ | refine bodyQ_ret3 ?_ | refine bodyQ_ret4 ?_); (try simp only [EVB, Nat.reduceEqDiff, reduceIte]))
    | ((with_reducible show C _ _ _ _ _ _); first | (refine AppendIntI_C h ht h6 h6n h0 hn fun v S1 hA => ?_))
    | (with_reducible refine Cont.use (by assumption) ?_)
    | (with_reducible first | refine hcA ?_ | refine hcB ?_)
    | ((with_reducible first | refine W_condG fun cA cB hcA hcB => ?_ | refine W_regionI ?_ | show O _ _ _ _ _ _ _ _ | show OK _ _ _ _ _ _ _ _ _ | show OKF _ _ _ _ _ _ _ _ _ _ | show OKT _ _ _ _ _ _ _ _ _ _ _ _ | show _ ∧ _ | show CG _ _ _ | show CB _ _ _); simp (disch := first | ((with_reducible show isStop _ = false); rfl) | ((with_reducible show isP _ = true); rfl) | ((with_reducible show (isStop _ || isP _) = false); rfl) | assumption | (simp only [GSB, Nat.reduceEqDiff, reduceIte]; done) | omega | (with_reducible decide) | (simp only [DSB, Go.Proofs.YtdfgdpjlbcnkfaaDoorAbs.oneC, Nat.reduceAdd, Nat.reduceLeDiff] <;> omega) | fail) only [↓DN, ↓reduceIte, UP, CGB, Int.reduceEq, Int.reduceLT, Int.reduceLE, Nat.reduceEqDiff, Nat.reduceAdd, Nat.reduceMul, Nat.reduceSub, Int.reduceToNat, Nat.reduceLeDiff, PF, isStop, isP, goInt, beq_self_eq_true, decide_true, decide_false, Int.toNat_natCast, Int.natCast_zero, nn_eq, nn_ne])
    | ((with_reducible refine CB_intro (fun ht => hcA ?_) (fun ht => hcB ?_)) <;> (first | (simp only [Bool.true_eq_false, Bool.false_eq_true] at ht; done) | ((try simp only [Bool.not_eq_true', Bool.not_eq_false'] at ht); (try simp only [ht]); (try simp only [HTN] at ht); (try (exfalso; omega)))))
    | ((with_reducible refine W_regionI ?_); simp only [List.append_eq, List.cons_append, List.nil_append])
    | (with_reducible refine O_splitG fun cA cB hcA hcB => ?_)
    | (exact hQ _ _ hA))
theorem Enc_C (h : HI I) (ht : HTZ I) (h6 : S.get 6 = some ⟨tab64, 0, false, 0⟩) (h6n : 6 < S.next) {v : Value} {xs : List UInt8} (hx : Sl S v xs) (hn : xs.length ≤ 1099511627000)
    (hQ : ∀ v' S', Acc S S' v' (encB xs) → Q v' S') : C Tryd.prog I 30 #[v] S Q := by
  refine C_body (rs := [.tmp 2]) (h.no 30 (by decide)) Tryd.func30 rfl rfl ok30 ?_
  obtain ⟨u22, sz5, u5, u9, u3, u29, u34, u33, sz3, u4, u41, sz66, u46, sz28, u47, u52, sz22, sz62, sz24, sz59, u59, sz60, u60, sz41, sz58, u58, sz73, sz34, sz4, sz9, sz83, u88, sz86, u112, sz118, u118, u2, sz126, u126, u21, sz130, u130, u139, u140, sz141, u141, u145, u148, sz147, u154, u155⟩ := UF
  have hx0 := hx
  obtain ⟨a, c, rfl⟩ := hx.len
  by_cases hne : xs = []
  · subst hne
    repeat' (first
    | (with_reducible first | refine W_pushC fun K hK => ?_ | refine W_blockI ?_ | refine W_scopeI ?_ | refine W_labelI ?_ | refine W_skipI ?_ | refine W_retI ?_ | refine W_exitI ?_ | refine then_normalI ?_ | refine then_retI ?_ | refine then_exitI ?_ | refine inBlock_normalI ?_ | refine inBlock_retI ?_ | refine inBlock_exitI ?_ | refine inBlock_exitN (by decide) ?_)
    | ((with_reducible first | refine bodyQ_normal0 ?_ | refine bodyQ_normal1 ?_ | refine bodyQ_normal2 ?_ | refine bodyQ_normal3 ?_ | refine bodyQ_normal4 ?_ | refine bodyQ_ret0 ?_ | refine bodyQ_ret1 ?_ | refine bodyQ_ret2 ?_ | refine bodyQ_ret3 ?_ | refine bodyQ_ret4 ?_); (try simp only [EVB, Nat.reduceEqDiff, reduceIte]))
    | (with_reducible refine Cont.use (by assumption) ?_)
    | (with_reducible first | refine hcA ?_ | refine hcB ?_)
    | ((with_reducible first | refine W_condG fun cA cB hcA hcB => ?_ | refine W_regionI ?_ | show O _ _ _ _ _ _ _ _ | show OK _ _ _ _ _ _ _ _ _ | show OKF _ _ _ _ _ _ _ _ _ _ | show OKT _ _ _ _ _ _ _ _ _ _ _ _ | show _ ∧ _ | show CG _ _ _ | show CB _ _ _); simp (disch := first | ((with_reducible show isStop _ = false); rfl) | ((with_reducible show isP _ = true); rfl) | ((with_reducible show (isStop _ || isP _) = false); rfl) | assumption | (simp only [GSB, Nat.reduceEqDiff, reduceIte]; done) | omega | (with_reducible decide) | (simp only [DSB, Go.Proofs.YtdfgdpjlbcnkfaaDoorAbs.oneC, Nat.reduceAdd, Nat.reduceLeDiff] <;> omega) | fail) only [↓DN, ↓reduceIte, UP, CGB, Int.reduceEq, Int.reduceLT, Int.reduceLE, Nat.reduceEqDiff, Nat.reduceAdd, Nat.reduceMul, Nat.reduceSub, Int.reduceToNat, Nat.reduceLeDiff, PF, isStop, isP, goInt, beq_self_eq_true, decide_true, decide_false, Int.toNat_natCast, Int.natCast_zero, nn_eq, nn_ne])
    | ((with_reducible refine CB_intro (fun ht => hcA ?_) (fun ht => hcB ?_)) <;> (first | (simp only [Bool.true_eq_false, Bool.false_eq_true] at ht; done) | ((try simp only [Bool.not_eq_true', Bool.not_eq_false'] at ht); (try simp only [ht]); (try simp only [HTN] at ht); (try (exfalso; omega)))))
    | ((with_reducible refine W_regionI ?_); simp only [List.append_eq, List.cons_append, List.nil_append])
    | (with_reducible refine O_splitG fun cA cB hcA hcB => ?_)
    | (exact hQ _ _ (Acc.nil _)))
  have hl := List.length_pos_iff.2 hne
  have d0 : decide ((xs.length : Int) = 0) = false := decide_eq_false (by omega)
  have hL := hexL_len 15 xs.length (by rw [show (16 : Nat) ^ 15 = 1152921504606846976 from rfl]; omega)
  repeat' (first
    | (with_reducible first | refine W_pushC fun K hK => ?_ | refine W_blockI ?_ | refine W_scopeI ?_ | refine W_labelI ?_ | refine W_skipI ?_ | refine W_retI ?_ | refine W_exitI ?_ | refine then_normalI ?_ | refine then_retI ?_ | refine then_exitI ?_ | refine inBlock_normalI ?_ | refine inBlock_retI ?_ | refine inBlock_exitI ?_ | refine inBlock_exitN (by decide) ?_)
    | ((with_reducible first | refine bodyQ_normal0 ?_ | refine bodyQ_normal1 ?_ | refine bodyQ_normal2 ?_ | refine bodyQ_normal3 ?_ | refine bodyQ_normal4 ?_ | refine bodyQ_ret0 ?_ | refine bodyQ_ret1 ?_ | refine bodyQ_ret2 ?_ | refine bodyQ_ret3 ?_ | refine bodyQ_ret4 ?_); (try simp only [EVB, Nat.reduceEqDiff, reduceIte]))
    | ((with_reducible show C _ _ _ _ _ _); first | (refine AppendInt_C h ht h6 h6n hl (by omega) fun v1 S1 hA1 => ?_))
    | (with_reducible refine Cont.use (by assumption) ?_)
    | (with_reducible first | refine hcA ?_ | refine hcB ?_)
    | ((with_reducible first | refine W_condG fun cA cB hcA hcB => ?_ | refine W_regionI ?_ | show O _ _ _ _ _ _ _ _ | show OK _ _ _ _ _ _ _ _ _ | show OKF _ _ _ _ _ _ _ _ _ _ | show OKT _ _ _ _ _ _ _ _ _ _ _ _ | show _ ∧ _ | show CG _ _ _ | show CB _ _ _); simp (disch := first | ((with_reducible show isStop _ = false); rfl) | ((with_reducible show isP _ = true); rfl) | ((with_reducible show (isStop _ || isP _) = false); rfl) | assumption | (simp only [GSB, Nat.reduceEqDiff, reduceIte]; done) | omega | (with_reducible decide) | (simp only [DSB, Go.Proofs.YtdfgdpjlbcnkfaaDoorAbs.oneC, Nat.reduceAdd, Nat.reduceLeDiff] <;> omega) | fail) only [↓DN, ↓reduceIte, UP, CGB, Int.reduceEq, Int.reduceLT, Int.reduceLE, Nat.reduceEqDiff, Nat.reduceAdd, Nat.reduceMul, Nat.reduceSub, Int.reduceToNat, Nat.reduceLeDiff, PF, isStop, isP, goInt, beq_self_eq_true, decide_true, decide_false, Int.toNat_natCast, Int.natCast_zero, nn_eq, nn_ne, d0])
    | ((with_reducible refine CB_intro (fun ht => hcA ?_) (fun ht => hcB ?_)) <;> (first | (simp only [Bool.true_eq_false, Bool.false_eq_true] at ht; done) | ((try simp only [Bool.not_eq_true', Bool.not_eq_false'] at ht); (try simp only [ht]); (try simp only [HTN] at ht); (try (exfalso; omega)))))
    | ((with_reducible refine W_regionI ?_); simp only [List.append_eq, List.cons_append, List.nil_append])
    | (with_reducible refine O_splitG fun cA cB hcA hcB => ?_))
  refine O_accS (S0 := S) (a := hexL xs.length) (c := [13, 10]) (by simp only [EVB, Nat.reduceEqDiff, reduceIte]; exact hA1) (by simp only [EVB, Nat.reduceEqDiff, reduceIte]) (by simp; omega) fun v2 S2 hA2 _ => ?_
  repeat' (first
    | (with_reducible first | refine W_pushC fun K hK => ?_ | refine W_blockI ?_ | refine W_scopeI ?_ | refine W_labelI ?_ | refine W_skipI ?_ | refine W_retI ?_ | refine W_exitI ?_ | refine then_normalI ?_ | refine then_retI ?_ | refine then_exitI ?_ | refine inBlock_normalI ?_ | refine inBlock_retI ?_ | refine inBlock_exitI ?_ | refine inBlock_exitN (by decide) ?_)
    | ((with_reducible first | refine bodyQ_normal0 ?_ | refine bodyQ_normal1 ?_ | refine bodyQ_normal2 ?_ | refine bodyQ_normal3 ?_ | refine bodyQ_normal4 ?_ | refine bodyQ_ret0 ?_ | refine bodyQ_ret1 ?_ | refine bodyQ_ret2 ?_ | refine bodyQ_ret3 ?_ | refine bodyQ_ret4 ?_); (try simp only [EVB, Nat.reduceEqDiff, reduceIte]))
    | (with_reducible refine Cont.use (by assumption) ?_)
    | (with_reducible first | refine hcA ?_ | refine hcB ?_)
    | ((with_reducible first | refine W_condG fun cA cB hcA hcB => ?_ | refine W_regionI ?_ | show O _ _ _ _ _ _ _ _ | show OK _ _ _ _ _ _ _ _ _ | show OKF _ _ _ _ _ _ _ _ _ _ | show OKT _ _ _ _ _ _ _ _ _ _ _ _ | show _ ∧ _ | show CG _ _ _ | show CB _ _ _); simp (disch := first | ((with_reducible show isStop _ = false); rfl) | ((with_reducible show isP _ = true); rfl) | ((with_reducible show (isStop _ || isP _) = false); rfl) | assumption | (simp only [GSB, Nat.reduceEqDiff, reduceIte]; done) | omega | (with_reducible decide) | (simp only [DSB, Go.Proofs.YtdfgdpjlbcnkfaaDoorAbs.oneC, Nat.reduceAdd, Nat.reduceLeDiff] <;> omega) | fail) only [↓DN, ↓reduceIte, UP, CGB, Int.reduceEq, Int.reduceLT, Int.reduceLE, Nat.reduceEqDiff, Nat.reduceAdd, Nat.reduceMul, Nat.reduceSub, Int.reduceToNat, Nat.reduceLeDiff, PF, isStop, isP, goInt, beq_self_eq_true, decide_true, decide_false, Int.toNat_natCast, Int.natCast_zero, nn_eq, nn_ne, d0])
    | ((with_reducible refine CB_intro (fun ht => hcA ?_) (fun ht => hcB ?_)) <;> (first | (simp only [Bool.true_eq_false, Bool.false_eq_true] at ht; done) | ((try simp only [Bool.not_eq_true', Bool.not_eq_false'] at ht); (try simp only [ht]); (try simp only [HTN] at ht); (try (exfalso; omega)))))
    | ((with_reducible refine W_regionI ?_); simp only [List.append_eq, List.cons_append, List.nil_append])
    | (with_reducible refine O_splitG fun cA cB hcA hcB => ?_))
  have hx2 := sl_kept hx0 hA2.kept (by simp)
  refine O_accB (S0 := S) (a := hexL xs.length ++ [13, 10]) (c := xs) (by simp only [EVB, Nat.reduceEqDiff, reduceIte]; exact hA2) (by simp only [EVB, Nat.reduceEqDiff, reduceIte]; exact hx2) (by simp; omega) fun v3 S3 hA3 _ => ?_
  repeat' (first
    | (with_reducible first | refine W_pushC fun K hK => ?_ | refine W_blockI ?_ | refine W_scopeI ?_ | refine W_labelI ?_ | refine W_skipI ?_ | refine W_retI ?_ | refine W_exitI ?_ | refine then_normalI ?_ | refine then_retI ?_ | refine then_exitI ?_ | refine inBlock_normalI ?_ | refine inBlock_retI ?_ | refine inBlock_exitI ?_ | refine inBlock_exitN (by decide) ?_)
    | ((with_reducible first | refine bodyQ_normal0 ?_ | refine bodyQ_normal1 ?_ | refine bodyQ_normal2 ?_ | refine bodyQ_normal3 ?_ | refine bodyQ_normal4 ?_ | refine bodyQ_ret0 ?_ | refine bodyQ_ret1 ?_ | refine bodyQ_ret2 ?_ | refine bodyQ_ret3 ?_ | refine bodyQ_ret4 ?_); (try simp only [EVB, Nat.reduceEqDiff, reduceIte]))
    | (with_reducible refine Cont.use (by assumption) ?_)
    | (with_reducible first | refine hcA ?_ | refine hcB ?_)
    | ((with_reducible first | refine W_condG fun cA cB hcA hcB => ?_ | refine W_regionI ?_ | show O _ _ _ _ _ _ _ _ | show OK _ _ _ _ _ _ _ _ _ | show OKF _ _ _ _ _ _ _ _ _ _ | show OKT _ _ _ _ _ _ _ _ _ _ _ _ | show _ ∧ _ | show CG _ _ _ | show CB _ _ _); simp (disch := first | ((with_reducible show isStop _ = false); rfl) | ((with_reducible show isP _ = true); rfl) | ((with_reducible show (isStop _ || isP _) = false); rfl) | assumption | (simp only [GSB, Nat.reduceEqDiff, reduceIte]; done) | omega | (with_reducible decide) | (simp only [DSB, Go.Proofs.YtdfgdpjlbcnkfaaDoorAbs.oneC, Nat.reduceAdd, Nat.reduceLeDiff] <;> omega) | fail) only [↓DN, ↓reduceIte, UP, CGB, Int.reduceEq, Int.reduceLT, Int.reduceLE, Nat.reduceEqDiff, Nat.reduceAdd, Nat.reduceMul, Nat.reduceSub, Int.reduceToNat, Nat.reduceLeDiff, PF, isStop, isP, goInt, beq_self_eq_true, decide_true, decide_false, Int.toNat_natCast, Int.natCast_zero, nn_eq, nn_ne, d0])
    | ((with_reducible refine CB_intro (fun ht => hcA ?_) (fun ht => hcB ?_)) <;> (first | (simp only [Bool.true_eq_false, Bool.false_eq_true] at ht; done) | ((try simp only [Bool.not_eq_true', Bool.not_eq_false'] at ht); (try simp only [ht]); (try simp only [HTN] at ht); (try (exfalso; omega)))))
    | ((with_reducible refine W_regionI ?_); simp only [List.append_eq, List.cons_append, List.nil_append])
    | (with_reducible refine O_splitG fun cA cB hcA hcB => ?_))
  refine O_accS (S0 := S) (a := hexL xs.length ++ [13, 10] ++ xs) (c := [13, 10]) (by simp only [EVB, Nat.reduceEqDiff, reduceIte]; exact hA3) (by simp only [EVB, Nat.reduceEqDiff, reduceIte]) (by simp; omega) fun v4 S4 hA4 _ => ?_
  have he : encB xs = hexL xs.length ++ [13, 10] ++ xs ++ [13, 10] := by rw [encB, if_neg hne]
  repeat' (first
    | (with_reducible first | refine W_pushC fun K hK => ?_ | refine W_blockI ?_ | refine W_scopeI ?_ | refine W_labelI ?_ | refine W_skipI ?_ | refine W_retI ?_ | refine W_exitI ?_ | refine then_normalI ?_ | refine then_retI ?_ | refine then_exitI ?_ | refine inBlock_normalI ?_ | refine inBlock_retI ?_ | refine inBlock_exitI ?_ | refine inBlock_exitN (by decide) ?_)
    | ((with_reducible first | refine bodyQ_normal0 ?_ | refine bodyQ_normal1 ?_ | refine bodyQ_normal2 ?_ | refine bodyQ_normal3 ?_ | refine bodyQ_normal4 ?_ | refine bodyQ_ret0 ?_ | refine bodyQ_ret1 ?_ | refine bodyQ_ret2 ?_ | refine bodyQ_ret3 ?_ | refine bodyQ_ret4 ?_); (try simp only [EVB, Nat.reduceEqDiff, reduceIte]))
    | (with_reducible refine Cont.use (by assumption) ?_)
    | (with_reducible first | refine hcA ?_ | refine hcB ?_)
    | ((with_reducible first | refine W_condG fun cA cB hcA hcB => ?_ | refine W_regionI ?_ | show O _ _ _ _ _ _ _ _ | show OK _ _ _ _ _ _ _ _ _ | show OKF _ _ _ _ _ _ _ _ _ _ | show OKT _ _ _ _ _ _ _ _ _ _ _ _ | show _ ∧ _ | show CG _ _ _ | show CB _ _ _); simp (disch := first | ((with_reducible show isStop _ = false); rfl) | ((with_reducible show isP _ = true); rfl) | ((with_reducible show (isStop _ || isP _) = false); rfl) | assumption | (simp only [GSB, Nat.reduceEqDiff, reduceIte]; done) | omega | (with_reducible decide) | (simp only [DSB, Go.Proofs.YtdfgdpjlbcnkfaaDoorAbs.oneC, Nat.reduceAdd, Nat.reduceLeDiff] <;> omega) | fail) only [↓DN, ↓reduceIte, UP, CGB, Int.reduceEq, Int.reduceLT, Int.reduceLE, Nat.reduceEqDiff, Nat.reduceAdd, Nat.reduceMul, Nat.reduceSub, Int.reduceToNat, Nat.reduceLeDiff, PF, isStop, isP, goInt, beq_self_eq_true, decide_true, decide_false, Int.toNat_natCast, Int.natCast_zero, nn_eq, nn_ne])
    | ((with_reducible refine CB_intro (fun ht => hcA ?_) (fun ht => hcB ?_)) <;> (first | (simp only [Bool.true_eq_false, Bool.false_eq_true] at ht; done) | ((try simp only [Bool.not_eq_true', Bool.not_eq_false'] at ht); (try simp only [ht]); (try simp only [HTN] at ht); (try (exfalso; omega)))))
    | ((with_reducible refine W_regionI ?_); simp only [List.append_eq, List.cons_append, List.nil_append])
    | (with_reducible refine O_splitG fun cA cB hcA hcB => ?_)
    | ((rw [← he] at hA4; exact hQ _ _ hA4)))
end
end Go.Proofs.YtdfgdpjlbcnkfaaDoor.Q
namespace Go.Proofs.YtdfgdpjlbcnkfaaDoor.Q
open Go Go.Proofs.YtdfgdpjlbcnkfaaDoorAbs Go.Proofs
set_option linter.unusedVariables false
set_option linter.unusedSimpArgs false
set_option maxRecDepth 100000
set_option maxHeartbeats 4000000
attribute [local irreducible] Go.Proofs.YtdfgdpjlbcnkfaaDoorAbs.O Go.Proofs.YtdfgdpjlbcnkfaaDoorAbs.W Go.Proofs.YtdfgdpjlbcnkfaaDoorAbs.C Go.Proofs.YtdfgdpjlbcnkfaaDoorAbs.OK Go.Proofs.YtdfgdpjlbcnkfaaDoorAbs.OKF Go.Proofs.YtdfgdpjlbcnkfaaDoorAbs.OKT Go.Proofs.YtdfgdpjlbcnkfaaDoorAbs.then_ Go.Proofs.YtdfgdpjlbcnkfaaDoorAbs.inBlock_ Go.Proofs.YtdfgdpjlbcnkfaaDoorAbs.bodyQ Go.Proofs.YtdfgdpjlbcnkfaaDoorAbs.Cont
def isTokB (s : ByteArray) : Bool := !s.data.toList.isEmpty && s.data.toList.all fun c => tokB (c.toNat : Int)
theorem all_step {l : List UInt8} {p : UInt8 → Bool} {i : Nat} (h : i < l.length) (h1 : (l.take i).all p = true) (h2 : p (l.getD i 0) = true) : (l.take (i + 1)).all p = true := by
  rw [List.take_add_one, List.all_append, h1, List.getElem?_eq_getElem h]
  have hg : l.getD i 0 = l[i] := by simp [List.getD_eq_getElem?_getD, List.getElem?_eq_getElem h]
  rw [hg] at h2
  simp [h2]
theorem all_no {l : List UInt8} {p : UInt8 → Bool} {i : Nat} (h : i < l.length) (h2 : p (l.getD i 0) = false) : l.all p = false := by
  have hg : l.getD i 0 = l[i] := by simp [List.getD_eq_getElem?_getD, List.getElem?_eq_getElem h]
  rw [hg] at h2
  rw [List.all_eq_false]
  exact ⟨l[i], List.getElem_mem h, by simp [h2]⟩
section
variable {I : Prims} {S S0 : St} {Q : Value → St → Prop} {e : Env}
theorem IsTok_C (h : HI I) {s : ByteArray} (hs : s.size ≤ 1048576) (hQ : Q (.bool (isTokB s)) S) : C Tryd.prog I 37 #[.string s] S Q := by
  refine C_body (rs := [.tmp 2]) (h.no 37 (by decide)) Tryd.func37 rfl rfl ok37 ?_
  obtain ⟨u22, sz5, u5, u9, u3, u29, u34, u33, sz3, u4, u41, sz66, u46, sz28, u47, u52, sz22, sz62, sz24, sz59, u59, sz60, u60, sz41, sz58, u58, sz73, sz34, sz4, sz9, sz83, u88, sz86, u112, sz118, u118, u2, sz126, u126, u21, sz130, u130, u139, u140, sz141, u141, u145, u148, sz147, u154, u155⟩ := UF
  have hsz : s.data.toList.length = s.size := by rw [Array.length_toList]; rfl
  repeat' (first
    | (with_reducible first | refine W_pushC fun K hK => ?_ | refine W_blockI ?_ | refine W_scopeI ?_ | refine W_labelI ?_ | refine W_skipI ?_ | refine W_retI ?_ | refine W_exitI ?_ | refine then_normalI ?_ | refine then_retI ?_ | refine then_exitI ?_ | refine inBlock_normalI ?_ | refine inBlock_retI ?_ | refine inBlock_exitI ?_ | refine inBlock_exitN (by decide) ?_)
    | ((with_reducible first | refine bodyQ_normal0 ?_ | refine bodyQ_normal1 ?_ | refine bodyQ_normal2 ?_ | refine bodyQ_normal3 ?_ | refine bodyQ_normal4 ?_ | refine bodyQ_ret0 ?_ | refine bodyQ_ret1 ?_ | refine bodyQ_ret2 ?_ | refine bodyQ_ret3 ?_ | refine bodyQ_ret4 ?_); (try simp only [EVB, Nat.reduceEqDiff, reduceIte]))
    | (with_reducible refine Cont.use (by assumption) ?_)
    | (with_reducible first | refine hcA ?_ | refine hcB ?_)
    | ((with_reducible first | refine W_condG fun cA cB hcA hcB => ?_ | refine W_regionI ?_ | show O _ _ _ _ _ _ _ _ | show OK _ _ _ _ _ _ _ _ _ | show OKF _ _ _ _ _ _ _ _ _ _ | show OKT _ _ _ _ _ _ _ _ _ _ _ _ | show _ ∧ _ | show CG _ _ _ | show CB _ _ _); simp (disch := first | ((with_reducible show isStop _ = false); rfl) | ((with_reducible show isP _ = true); rfl) | ((with_reducible show (isStop _ || isP _) = false); rfl) | assumption | (simp only [GSB, Nat.reduceEqDiff, reduceIte]; done) | omega | (with_reducible decide) | (simp only [DSB, Go.Proofs.YtdfgdpjlbcnkfaaDoorAbs.oneC, Nat.reduceAdd, Nat.reduceLeDiff] <;> omega) | fail) only [↓DN, ↓reduceIte, UP, CGB, Int.reduceEq, Int.reduceLT, Int.reduceLE, Nat.reduceEqDiff, Nat.reduceAdd, Nat.reduceMul, Nat.reduceSub, Int.reduceToNat, Nat.reduceLeDiff, PF, isStop, isP, goInt, beq_self_eq_true, decide_true, decide_false, Int.toNat_natCast, Int.natCast_zero, nn_eq, nn_ne])
    | ((with_reducible refine CB_intro (fun ht => hcA ?_) (fun ht => hcB ?_)) <;> (first | (simp only [Bool.true_eq_false, Bool.false_eq_true] at ht; done) | ((try simp only [Bool.not_eq_true', Bool.not_eq_false'] at ht); (try simp only [ht]); (try simp only [HTN] at ht); (try (exfalso; omega)))))
    | ((with_reducible refine W_regionI ?_); simp only [List.append_eq, List.cons_append, List.nil_append])
    | (with_reducible refine O_splitG fun cA cB hcA hcB => ?_))
  refine W_loop (fun n e S1 => ∃ i : Nat, e.get 0 = .string s ∧ e.get 3 = .int .i64 i ∧ i ≤ s.size ∧ n = s.size - i ∧ ((s.data.toList.take i).all fun c => tokB (c.toNat : Int)) = true ∧ S1 = S) s.size ⟨0, by simp only [EVB, Nat.reduceEqDiff, reduceIte], by simp only [EVB, Nat.reduceEqDiff, reduceIte]; rfl, Nat.zero_le _, by simp, by simp, rfl⟩ ?_
  rintro n e S1 ⟨i, e0, e3, hi, hn', hall, rfl⟩
  have wi : IntKind.i64.wrap ((i : Int) + 1) = ((i + 1 : Nat) : Int) := by rw [Go.Proofs.YtdfgdpjlbcnkfaaDoorAbs.wp64 (by omega) (by omega)]; omega
  by_cases hlt : i < s.size
  · have hd : decide ((i : Int) < (s.size : Int)) = true := decide_eq_true (by omega)
    have hix : ixX Tryd.prog 9 (.string s) (.int .i64 (i : Int)) = some (.int .u8 ((s.data.toList.getD i 0).toNat : Int)) := by
      rw [ixX_string _ _ _ _ u9 (by omega) (by omega), Int.toNat_natCast]
    by_cases htk : tokB ((s.data.toList.getD i 0).toNat : Int) = true
    · repeat' (first
    | (with_reducible first | refine W_pushC fun K hK => ?_ | refine W_blockI ?_ | refine W_scopeI ?_ | refine W_labelI ?_ | refine W_skipI ?_ | refine W_retI ?_ | refine W_exitI ?_ | refine then_normalI ?_ | refine then_retI ?_ | refine then_exitI ?_ | refine inBlock_normalI ?_ | refine inBlock_retI ?_ | refine inBlock_exitI ?_ | refine inBlock_exitN (by decide) ?_)
    | ((with_reducible first | refine bodyQ_normal0 ?_ | refine bodyQ_normal1 ?_ | refine bodyQ_normal2 ?_ | refine bodyQ_normal3 ?_ | refine bodyQ_normal4 ?_ | refine bodyQ_ret0 ?_ | refine bodyQ_ret1 ?_ | refine bodyQ_ret2 ?_ | refine bodyQ_ret3 ?_ | refine bodyQ_ret4 ?_); (try simp only [EVB, Nat.reduceEqDiff, reduceIte]))
    | ((with_reducible show C _ _ _ _ _ _); first | (refine Token_C (h.no 54 (by decide)) (h.no 66 (by decide)) (h.no 67 (by decide)) h.idxS ?_))
    | (with_reducible refine Cont.use (by assumption) ?_)
    | (with_reducible first | refine hcA ?_ | refine hcB ?_)
    | ((with_reducible first | refine W_condG fun cA cB hcA hcB => ?_ | refine W_regionI ?_ | show O _ _ _ _ _ _ _ _ | show OK _ _ _ _ _ _ _ _ _ | show OKF _ _ _ _ _ _ _ _ _ _ | show OKT _ _ _ _ _ _ _ _ _ _ _ _ | show _ ∧ _ | show CG _ _ _ | show CB _ _ _); simp (disch := first | ((with_reducible show isStop _ = false); rfl) | ((with_reducible show isP _ = true); rfl) | ((with_reducible show (isStop _ || isP _) = false); rfl) | assumption | (simp only [GSB, Nat.reduceEqDiff, reduceIte]; done) | omega | (with_reducible decide) | (simp only [DSB, Go.Proofs.YtdfgdpjlbcnkfaaDoorAbs.oneC, Nat.reduceAdd, Nat.reduceLeDiff] <;> omega) | fail) only [↓DN, ↓reduceIte, UP, CGB, Int.reduceEq, Int.reduceLT, Int.reduceLE, Nat.reduceEqDiff, Nat.reduceAdd, Nat.reduceMul, Nat.reduceSub, Int.reduceToNat, Nat.reduceLeDiff, PF, isStop, isP, goInt, beq_self_eq_true, decide_true, decide_false, Int.toNat_natCast, Int.natCast_zero, nn_eq, nn_ne, hd, e0, e3, wi, hix, htk])
    | ((with_reducible refine CB_intro (fun ht => hcA ?_) (fun ht => hcB ?_)) <;> (first | (simp only [Bool.true_eq_false, Bool.false_eq_true] at ht; done) | ((try simp only [Bool.not_eq_true', Bool.not_eq_false'] at ht); (try simp only [ht]); (try simp only [HTN] at ht); (try (exfalso; omega)))))
    | ((with_reducible refine W_regionI ?_); simp only [List.append_eq, List.cons_append, List.nil_append])
    | (with_reducible refine O_splitG fun cA cB hcA hcB => ?_)
    | ((refine ⟨_, ?_, i + 1, by simp only [EVB, Nat.reduceEqDiff, reduceIte, e0], by simp only [EVB, Nat.reduceEqDiff, reduceIte], by omega, rfl, all_step (by omega) hall htk, rfl⟩; omega)))
    · have htf : tokB ((s.data.toList.getD i 0).toNat : Int) = false := by simpa using htk
      have hr : isTokB s = false := by rw [isTokB, all_no (by omega) htf]; simp
      repeat' (first
    | (with_reducible first | refine W_pushC fun K hK => ?_ | refine W_blockI ?_ | refine W_scopeI ?_ | refine W_labelI ?_ | refine W_skipI ?_ | refine W_retI ?_ | refine W_exitI ?_ | refine then_normalI ?_ | refine then_retI ?_ | refine then_exitI ?_ | refine inBlock_normalI ?_ | refine inBlock_retI ?_ | refine inBlock_exitI ?_ | refine inBlock_exitN (by decide) ?_)
    | ((with_reducible first | refine bodyQ_normal0 ?_ | refine bodyQ_normal1 ?_ | refine bodyQ_normal2 ?_ | refine bodyQ_normal3 ?_ | refine bodyQ_normal4 ?_ | refine bodyQ_ret0 ?_ | refine bodyQ_ret1 ?_ | refine bodyQ_ret2 ?_ | refine bodyQ_ret3 ?_ | refine bodyQ_ret4 ?_); (try simp only [EVB, Nat.reduceEqDiff, reduceIte]))
    | ((with_reducible show C _ _ _ _ _ _); first | (refine Token_C (h.no 54 (by decide)) (h.no 66 (by decide)) (h.no 67 (by decide)) h.idxS ?_))
    | (with_reducible refine Cont.use (by assumption) ?_)
    | (with_reducible first | refine hcA ?_ | refine hcB ?_)
    | ((with_reducible first | refine W_condG fun cA cB hcA hcB => ?_ | refine W_regionI ?_ | show O _ _ _ _ _ _ _ _ | show OK _ _ _ _ _ _ _ _ _ | show OKF _ _ _ _ _ _ _ _ _ _ | show OKT _ _ _ _ _ _ _ _ _ _ _ _ | show _ ∧ _ | show CG _ _ _ | show CB _ _ _); simp (disch := first | ((with_reducible show isStop _ = false); rfl) | ((with_reducible show isP _ = true); rfl) | ((with_reducible show (isStop _ || isP _) = false); rfl) | assumption | (simp only [GSB, Nat.reduceEqDiff, reduceIte]; done) | omega | (with_reducible decide) | (simp only [DSB, Go.Proofs.YtdfgdpjlbcnkfaaDoorAbs.oneC, Nat.reduceAdd, Nat.reduceLeDiff] <;> omega) | fail) only [↓DN, ↓reduceIte, UP, CGB, Int.reduceEq, Int.reduceLT, Int.reduceLE, Nat.reduceEqDiff, Nat.reduceAdd, Nat.reduceMul, Nat.reduceSub, Int.reduceToNat, Nat.reduceLeDiff, PF, isStop, isP, goInt, beq_self_eq_true, decide_true, decide_false, Int.toNat_natCast, Int.natCast_zero, nn_eq, nn_ne, hd, e0, e3, wi, hix, htf])
    | ((with_reducible refine CB_intro (fun ht => hcA ?_) (fun ht => hcB ?_)) <;> (first | (simp only [Bool.true_eq_false, Bool.false_eq_true] at ht; done) | ((try simp only [Bool.not_eq_true', Bool.not_eq_false'] at ht); (try simp only [ht]); (try simp only [HTN] at ht); (try (exfalso; omega)))))
    | ((with_reducible refine W_regionI ?_); simp only [List.append_eq, List.cons_append, List.nil_append])
    | (with_reducible refine O_splitG fun cA cB hcA hcB => ?_)
    | ((rw [hr] at hQ; exact hQ)))
  · have hd : decide ((i : Int) < (s.size : Int)) = false := decide_eq_false (by omega)
    have hr : isTokB s = !s.data.toList.isEmpty := by
      rw [List.take_of_length_le (by omega)] at hall
      rw [isTokB, hall]; simp
    rw [hr] at hQ
    repeat' (first
    | (with_reducible first | refine W_pushC fun K hK => ?_ | refine W_blockI ?_ | refine W_scopeI ?_ | refine W_labelI ?_ | refine W_skipI ?_ | refine W_retI ?_ | refine W_exitI ?_ | refine then_normalI ?_ | refine then_retI ?_ | refine then_exitI ?_ | refine inBlock_normalI ?_ | refine inBlock_retI ?_ | refine inBlock_exitI ?_ | refine inBlock_exitN (by decide) ?_)
    | ((with_reducible first | refine bodyQ_normal0 ?_ | refine bodyQ_normal1 ?_ | refine bodyQ_normal2 ?_ | refine bodyQ_normal3 ?_ | refine bodyQ_normal4 ?_ | refine bodyQ_ret0 ?_ | refine bodyQ_ret1 ?_ | refine bodyQ_ret2 ?_ | refine bodyQ_ret3 ?_ | refine bodyQ_ret4 ?_); (try simp only [EVB, Nat.reduceEqDiff, reduceIte]))
    | (with_reducible refine Cont.use (by assumption) ?_)
    | (with_reducible first | refine hcA ?_ | refine hcB ?_)
    | ((with_reducible first | refine W_condG fun cA cB hcA hcB => ?_ | refine W_regionI ?_ | show O _ _ _ _ _ _ _ _ | show OK _ _ _ _ _ _ _ _ _ | show OKF _ _ _ _ _ _ _ _ _ _ | show OKT _ _ _ _ _ _ _ _ _ _ _ _ | show _ ∧ _ | show CG _ _ _ | show CB _ _ _); simp (disch := first | ((with_reducible show isStop _ = false); rfl) | ((with_reducible show isP _ = true); rfl) | ((with_reducible show (isStop _ || isP _) = false); rfl) | assumption | (simp only [GSB, Nat.reduceEqDiff, reduceIte]; done) | omega | (with_reducible decide) | (simp only [DSB, Go.Proofs.YtdfgdpjlbcnkfaaDoorAbs.oneC, Nat.reduceAdd, Nat.reduceLeDiff] <;> omega) | fail) only [↓DN, ↓reduceIte, UP, CGB, Int.reduceEq, Int.reduceLT, Int.reduceLE, Nat.reduceEqDiff, Nat.reduceAdd, Nat.reduceMul, Nat.reduceSub, Int.reduceToNat, Nat.reduceLeDiff, PF, isStop, isP, goInt, beq_self_eq_true, decide_true, decide_false, Int.toNat_natCast, Int.natCast_zero, nn_eq, nn_ne, hd, e0, e3])
    | ((with_reducible refine CB_intro (fun ht => hcA ?_) (fun ht => hcB ?_)) <;> (first | (simp only [Bool.true_eq_false, Bool.false_eq_true] at ht; done) | ((try simp only [Bool.not_eq_true', Bool.not_eq_false'] at ht); (try simp only [ht]); (try simp only [HTN] at ht); (try (exfalso; omega)))))
    | ((with_reducible refine W_regionI ?_); simp only [List.append_eq, List.cons_append, List.nil_append])
    | (with_reducible refine O_splitG fun cA cB hcA hcB => ?_))
    rw [ByteArray.toList_eq, ByteArray.toList_eq]
    have he : (s.data.toList == (⟨#[]⟩ : ByteArray).data.toList) = s.data.toList.isEmpty := by cases s.data.toList <;> rfl
    rw [he]; exact hQ
end
end Go.Proofs.YtdfgdpjlbcnkfaaDoor.Q
namespace Go.Proofs.YtdfgdpjlbcnkfaaDoor.Q
open Go Go.Proofs.YtdfgdpjlbcnkfaaDoorAbs Go.Proofs
set_option linter.unusedVariables false
set_option linter.unusedSimpArgs false
set_option maxRecDepth 100000
set_option maxHeartbeats 4000000
attribute [local irreducible] Go.Proofs.YtdfgdpjlbcnkfaaDoorAbs.O Go.Proofs.YtdfgdpjlbcnkfaaDoorAbs.W Go.Proofs.YtdfgdpjlbcnkfaaDoorAbs.C Go.Proofs.YtdfgdpjlbcnkfaaDoorAbs.OK Go.Proofs.YtdfgdpjlbcnkfaaDoorAbs.OKF Go.Proofs.YtdfgdpjlbcnkfaaDoorAbs.OKT Go.Proofs.YtdfgdpjlbcnkfaaDoorAbs.then_ Go.Proofs.YtdfgdpjlbcnkfaaDoorAbs.inBlock_ Go.Proofs.YtdfgdpjlbcnkfaaDoorAbs.bodyQ Go.Proofs.YtdfgdpjlbcnkfaaDoorAbs.Cont
def HGrow (I : Prims) : Prop := ∀ (S : St) (n : Nat) (Q : Value → St → Prop), 0 < n → n ≤ 1099511627776 → Q (.slice (some ⟨S.next, 0, some 0⟩) 0 (UNK + 1)) (S.push ⟨[], 5, true, 0⟩) → C Tryd.prog I 56 #[.slice none 0 0, .int .i64 n] S Q
theorem flat_take {bs : List (List UInt8)} {i : Nat} {x : List UInt8} (h : bs[i]? = some x) : (bs.take (i + 1)).flatten = (bs.take i).flatten ++ x := by
  rw [List.take_add_one, h]
  simp
section
variable {I : Prims} {S S0 : St} {Q : Value → St → Prop} {e : Env}
theorem O_append0 {ops : Array Oper} {r : List Oper} {dst : Option Tmp} {ty : TypeId} {pos : String} {after : Array Edge} {s x : Operand} {c : List UInt8} {b : Nat} {R : Env → St → Prop} (hs : e.ev s = .slice (some ⟨b, 0, some 0⟩) 0 (UNK + 1)) (hb : S.get b = some ⟨[], 5, true, 0⟩) (hbn : b < S.next) (hb0 : S0.next ≤ b) (hk0 : Kept S0 S none)
    (hx : Sl S (e.ev x) c) (hc : 0 < c.length) (hl : c.length ≤ 1099511627776)
    (hk : ∀ v' S', Acc S0 S' v' c → O Tryd.prog I ops r [] R (e.putO dst v') S') : O Tryd.prog I ops (⟨dst, .call ⟨.builtin .append, #[s, x], #[22, 22]⟩, ty, pos, after, none⟩ :: r) [] R e S := by
  have hlen : (u8v c).length = c.length := by simp [u8v]
  have ha : aappend Tryd.prog S 22 22 (e.ev s) (e.ev x) = some (.slice (some ⟨b, 0, some c.length⟩) c.length (UNK + 1), S.upd b ⟨u8v c, 5, true, 0⟩) := by
    have hx' := sl_src hx
    have hz : (Value.int IntKind.u8 0).cells.size = 1 := rfl
    simp only [aappend, u22, sz5, by5, ze5, hx', hs, hz]
    rw [if_pos ⟨by decide, by decide, trivial⟩, if_neg (by omega)]
    simp only [hb, List.length_nil, Nat.zero_mul, Nat.add_zero, Nat.zero_add, List.nil_append, hlen, if_true]
    rw [if_pos ⟨trivial, trivial, Nat.le_refl _, trivial, hbn, trivial, by omega⟩]
  have hO : Own 5 1 (S.upd b ⟨u8v c, 5, true, 0⟩) (.slice (some ⟨b, 0, some c.length⟩) c.length (UNK + 1)) c.length (u8v c) :=
    ⟨by simp [u8v], u8v_one _, .inr ⟨b, 0, by rw [hlen], St.get_upd_self _ _ _, Nat.zero_le _, hbn, hc⟩⟩
  have hf := hk _ _ ⟨Kept.upd hk0 hb0 _, hO, fun i q => by cases q; exact hb0⟩
  rw [O_step rfl]
  have : aop Tryd.prog e.ev ⟨dst, .call ⟨.builtin .append, #[s, x], #[22, 22]⟩, ty, pos, after, none⟩ S = some (.slice (some ⟨b, 0, some c.length⟩) c.length (UNK + 1), S.upd b ⟨u8v c, 5, true, 0⟩) := by
    rw [aop_builtin]
    show alt (aappend Tryd.prog S 22 22 (e.ev s) (e.ev x)) _ = _
    rw [ha, alt_some]
  rw [this]
  exact ⟨rfl, hf⟩
theorem Concat_C (h : HI I) (hg : HGrow I) {b m el n : Nat} {vs : List Value} {bs : List (List UInt8)} {x0 : List UInt8} (hlen : vs.length = n) (hlenb : bs.length = n) (hn : n ≤ 1024) (hb : S.get b = some ⟨vs, el, true, m⟩) (hm : m ≤ n) (hbn : b < S.next)
    (hv : ∀ (i : Nat) (v : Value), vs[i]? = some v → ∃ x, bs[i]? = some x ∧ Sl S v x) (hsum : bs.flatten.length ≤ 1099511627776) (hx0 : bs[0]? = some x0) (hne : 0 < x0.length)
    (hQ : ∀ v' S', Acc S S' v' bs.flatten → Q v' S') : C Tryd.prog I 40 #[.slice (some ⟨b, 0, some n⟩) n n] S Q := by
  refine C_body (rs := [.tmp 2]) (h.no 40 (by decide)) Tryd.func40 rfl rfl ok40 ?_
  obtain ⟨u22, sz5, u5, u9, u3, u29, u34, u33, sz3, u4, u41, sz66, u46, sz28, u47, u52, sz22, sz62, sz24, sz59, u59, sz60, u60, sz41, sz58, u58, sz73, sz34, sz4, sz9, sz83, u88, sz86, u112, sz118, u118, u2, sz126, u126, u21, sz130, u130, u139, u140, sz141, u141, u145, u148, sz147, u154, u155⟩ := UF
  have hcell : ∀ S1, Kept S S1 none → ∀ i, i < n → Go.Proofs.YtdfgdpjlbcnkfaaDoorAbs.cellAt (S1.get b) i n = vs[i]? := fun S1 k i hi => by
    rw [k.2 b hbn (by simp), hb, Go.Proofs.YtdfgdpjlbcnkfaaDoorAbs.cellAt_own hm (by omega)]
  have hpre : ∀ i, (bs.take i).flatten.length ≤ bs.flatten.length := fun i => by
    conv => rhs; rw [← List.take_append_drop i bs, List.flatten_append, List.length_append]
    omega
  repeat' (first
    | (with_reducible first | refine W_pushC fun K hK => ?_ | refine W_blockI ?_ | refine W_scopeI ?_ | refine W_labelI ?_ | refine W_skipI ?_ | refine W_retI ?_ | refine W_exitI ?_ | refine then_normalI ?_ | refine then_retI ?_ | refine then_exitI ?_ | refine inBlock_normalI ?_ | refine inBlock_retI ?_ | refine inBlock_exitI ?_ | refine inBlock_exitN (by decide) ?_)
    | ((with_reducible first | refine bodyQ_normal0 ?_ | refine bodyQ_normal1 ?_ | refine bodyQ_normal2 ?_ | refine bodyQ_normal3 ?_ | refine bodyQ_normal4 ?_ | refine bodyQ_ret0 ?_ | refine bodyQ_ret1 ?_ | refine bodyQ_ret2 ?_ | refine bodyQ_ret3 ?_ | refine bodyQ_ret4 ?_); (try simp only [EVB, Nat.reduceEqDiff, reduceIte]))
    | (with_reducible refine Cont.use (by assumption) ?_)
    | (with_reducible first | refine hcA ?_ | refine hcB ?_)
    | ((with_reducible first | refine W_condG fun cA cB hcA hcB => ?_ | refine W_regionI ?_ | show O _ _ _ _ _ _ _ _ | show OK _ _ _ _ _ _ _ _ _ | show OKF _ _ _ _ _ _ _ _ _ _ | show OKT _ _ _ _ _ _ _ _ _ _ _ _ | show _ ∧ _ | show CG _ _ _ | show CB _ _ _); simp (disch := first | ((with_reducible show isStop _ = false); rfl) | ((with_reducible show isP _ = true); rfl) | ((with_reducible show (isStop _ || isP _) = false); rfl) | assumption | (simp only [GSB, Nat.reduceEqDiff, reduceIte]; done) | omega | (with_reducible decide) | (simp only [DSB, Go.Proofs.YtdfgdpjlbcnkfaaDoorAbs.oneC, Nat.reduceAdd, Nat.reduceLeDiff] <;> omega) | fail) only [↓DN, ↓reduceIte, UP, CGB, Int.reduceEq, Int.reduceLT, Int.reduceLE, Nat.reduceEqDiff, Nat.reduceAdd, Nat.reduceMul, Nat.reduceSub, Int.reduceToNat, Nat.reduceLeDiff, PF, isStop, isP, goInt, beq_self_eq_true, decide_true, decide_false, Int.toNat_natCast, Int.natCast_zero, nn_eq, nn_ne])
    | ((with_reducible refine CB_intro (fun ht => hcA ?_) (fun ht => hcB ?_)) <;> (first | (simp only [Bool.true_eq_false, Bool.false_eq_true] at ht; done) | ((try simp only [Bool.not_eq_true', Bool.not_eq_false'] at ht); (try simp only [ht]); (try simp only [HTN] at ht); (try (exfalso; omega)))))
    | ((with_reducible refine W_regionI ?_); simp only [List.append_eq, List.cons_append, List.nil_append])
    | (with_reducible refine O_splitG fun cA cB hcA hcB => ?_))
  refine W_loop (fun k e S1 => ∃ i : Nat, e.get 0 = .slice (some ⟨b, 0, some n⟩) n n ∧ e.get 9 = .slice (some ⟨b, 0, some n⟩) n n ∧ e.get 3 = .int .i64 ((bs.take i).flatten.length : Nat) ∧ e.get 10 = .int .i64 n ∧ e.get 11 = .int .i64 i ∧ i ≤ n ∧ k = n - i ∧ S1 = S) n ⟨0, by simp only [EVB, Nat.reduceEqDiff, reduceIte], by simp only [EVB, Nat.reduceEqDiff, reduceIte], by simp only [EVB, Nat.reduceEqDiff, reduceIte]; rfl, by simp only [EVB, Nat.reduceEqDiff, reduceIte], by simp only [EVB, Nat.reduceEqDiff, reduceIte]; rfl, Nat.zero_le _, by simp, rfl⟩ ?_
  rintro k e S1 ⟨i, e0, e9, e3, e10, e11, hi, hk', rfl⟩
  by_cases hlt : i < n
  · have hd : decide ((i : Int) < (n : Int)) = true := decide_eq_true (by omega)
    have wi : IntKind.i64.wrap ((i : Int) + 1) = ((i + 1 : Nat) : Int) := by rw [Go.Proofs.YtdfgdpjlbcnkfaaDoorAbs.wp64 (by omega) (by omega)]; omega
    obtain ⟨v, hvi⟩ : ∃ v, vs[i]? = some v := ⟨vs[i]'(by omega), by simp⟩
    obtain ⟨x, hxi, hxS⟩ := hv i v hvi
    have hl1 := hcell S1 (Kept.refl _ _) i hlt
    rw [hvi] at hl1
    have hft := flat_take hxi
    have hp1 := hpre (i + 1)
    rw [hft, List.length_append] at hp1
    have ws : IntKind.i64.wrap (((bs.take i).flatten.length : Nat) + (x.length : Int)) = (((bs.take (i + 1)).flatten.length : Nat) : Int) := by
      rw [hft, List.length_append, Go.Proofs.YtdfgdpjlbcnkfaaDoorAbs.wp64 (by omega) (by omega)]; omega
    have hng : decide ((((bs.take (i + 1)).flatten.length : Nat) : Int) < 0) = false := decide_eq_false (by omega)
    obtain ⟨xa, xc, rfl⟩ := hxS.len
    repeat' (first
    | (with_reducible first | refine W_pushC fun K hK => ?_ | refine W_blockI ?_ | refine W_scopeI ?_ | refine W_labelI ?_ | refine W_skipI ?_ | refine W_retI ?_ | refine W_exitI ?_ | refine then_normalI ?_ | refine then_retI ?_ | refine then_exitI ?_ | refine inBlock_normalI ?_ | refine inBlock_retI ?_ | refine inBlock_exitI ?_ | refine inBlock_exitN (by decide) ?_)
    | ((with_reducible first | refine bodyQ_normal0 ?_ | refine bodyQ_normal1 ?_ | refine bodyQ_normal2 ?_ | refine bodyQ_normal3 ?_ | refine bodyQ_normal4 ?_ | refine bodyQ_ret0 ?_ | refine bodyQ_ret1 ?_ | refine bodyQ_ret2 ?_ | refine bodyQ_ret3 ?_ | refine bodyQ_ret4 ?_); (try simp only [EVB, Nat.reduceEqDiff, reduceIte]))
    | (with_reducible refine Cont.use (by assumption) ?_)
    | (with_reducible first | refine hcA ?_ | refine hcB ?_)
    | ((with_reducible first | refine W_condG fun cA cB hcA hcB => ?_ | refine W_regionI ?_ | show O _ _ _ _ _ _ _ _ | show OK _ _ _ _ _ _ _ _ _ | show OKF _ _ _ _ _ _ _ _ _ _ | show OKT _ _ _ _ _ _ _ _ _ _ _ _ | show _ ∧ _ | show CG _ _ _ | show CB _ _ _); simp (disch := first | ((with_reducible show isStop _ = false); rfl) | ((with_reducible show isP _ = true); rfl) | ((with_reducible show (isStop _ || isP _) = false); rfl) | assumption | (simp only [GSB, Nat.reduceEqDiff, reduceIte]; done) | omega | (with_reducible decide) | (simp only [DSB, Go.Proofs.YtdfgdpjlbcnkfaaDoorAbs.oneC, Nat.reduceAdd, Nat.reduceLeDiff] <;> omega) | fail) only [↓DN, ↓reduceIte, UP, CGB, Int.reduceEq, Int.reduceLT, Int.reduceLE, Nat.reduceEqDiff, Nat.reduceAdd, Nat.reduceMul, Nat.reduceSub, Int.reduceToNat, Nat.reduceLeDiff, PF, isStop, isP, goInt, beq_self_eq_true, decide_true, decide_false, Int.toNat_natCast, Int.natCast_zero, nn_eq, nn_ne, hd, e0, e9, e3, e10, e11, wi, ws, hl1, hng])
    | ((with_reducible refine CB_intro (fun ht => hcA ?_) (fun ht => hcB ?_)) <;> (first | (simp only [Bool.true_eq_false, Bool.false_eq_true] at ht; done) | ((try simp only [Bool.not_eq_true', Bool.not_eq_false'] at ht); (try simp only [ht]); (try simp only [HTN] at ht); (try (exfalso; omega)))))
    | ((with_reducible refine W_regionI ?_); simp only [List.append_eq, List.cons_append, List.nil_append])
    | (with_reducible refine O_splitG fun cA cB hcA hcB => ?_)
    | ((refine ⟨_, ?_, i + 1, by simp only [EVB, Nat.reduceEqDiff, reduceIte, e0], by simp only [EVB, Nat.reduceEqDiff, reduceIte, e9], by simp only [EVB, Nat.reduceEqDiff, reduceIte], by simp only [EVB, Nat.reduceEqDiff, reduceIte, e10], by simp only [EVB, Nat.reduceEqDiff, reduceIte], by omega, rfl, rfl⟩; omega)))
  have hd : decide ((i : Int) < (n : Int)) = false := decide_eq_false (by omega)
  have hin : i = n := by omega
  have hall : bs.take i = bs := List.take_of_length_le (by omega)
  rw [hall] at e3
  have hs0 : 0 < bs.flatten.length := by
    have := hpre 1
    rw [flat_take hx0] at this
    simp only [List.take_zero, List.flatten_nil, List.nil_append] at this; omega
  repeat' (first
    | (with_reducible first | refine W_pushC fun K hK => ?_ | refine W_blockI ?_ | refine W_scopeI ?_ | refine W_labelI ?_ | refine W_skipI ?_ | refine W_retI ?_ | refine W_exitI ?_ | refine then_normalI ?_ | refine then_retI ?_ | refine then_exitI ?_ | refine inBlock_normalI ?_ | refine inBlock_retI ?_ | refine inBlock_exitI ?_ | refine inBlock_exitN (by decide) ?_)
    | ((with_reducible first | refine bodyQ_normal0 ?_ | refine bodyQ_normal1 ?_ | refine bodyQ_normal2 ?_ | refine bodyQ_normal3 ?_ | refine bodyQ_normal4 ?_ | refine bodyQ_ret0 ?_ | refine bodyQ_ret1 ?_ | refine bodyQ_ret2 ?_ | refine bodyQ_ret3 ?_ | refine bodyQ_ret4 ?_); (try simp only [EVB, Nat.reduceEqDiff, reduceIte]))
    | ((with_reducible show C _ _ _ _ _ _); first | (refine hg _ _ _ hs0 hsum ?_))
    | (with_reducible refine Cont.use (by assumption) ?_)
    | (with_reducible first | refine hcA ?_ | refine hcB ?_)
    | ((with_reducible first | refine W_condG fun cA cB hcA hcB => ?_ | refine W_regionI ?_ | show O _ _ _ _ _ _ _ _ | show OK _ _ _ _ _ _ _ _ _ | show OKF _ _ _ _ _ _ _ _ _ _ | show OKT _ _ _ _ _ _ _ _ _ _ _ _ | show _ ∧ _ | show CG _ _ _ | show CB _ _ _); simp (disch := first | ((with_reducible show isStop _ = false); rfl) | ((with_reducible show isP _ = true); rfl) | ((with_reducible show (isStop _ || isP _) = false); rfl) | assumption | (simp only [GSB, Nat.reduceEqDiff, reduceIte]; done) | omega | (with_reducible decide) | (simp only [DSB, Go.Proofs.YtdfgdpjlbcnkfaaDoorAbs.oneC, Nat.reduceAdd, Nat.reduceLeDiff] <;> omega) | fail) only [↓DN, ↓reduceIte, UP, CGB, Int.reduceEq, Int.reduceLT, Int.reduceLE, Nat.reduceEqDiff, Nat.reduceAdd, Nat.reduceMul, Nat.reduceSub, Int.reduceToNat, Nat.reduceLeDiff, PF, isStop, isP, goInt, beq_self_eq_true, decide_true, decide_false, Int.toNat_natCast, Int.natCast_zero, nn_eq, nn_ne, hd, e0, e9, e3, e10, e11])
    | ((with_reducible refine CB_intro (fun ht => hcA ?_) (fun ht => hcB ?_)) <;> (first | (simp only [Bool.true_eq_false, Bool.false_eq_true] at ht; done) | ((try simp only [Bool.not_eq_true', Bool.not_eq_false'] at ht); (try simp only [ht]); (try simp only [HTN] at ht); (try (exfalso; omega)))))
    | ((with_reducible refine W_regionI ?_); simp only [List.append_eq, List.cons_append, List.nil_append])
    | (with_reducible refine O_splitG fun cA cB hcA hcB => ?_))
  have hn0 : 0 < n := by
    rcases Nat.eq_zero_or_pos n with q | q
    · rw [q] at hlenb; rw [List.length_eq_zero_iff.1 hlenb] at hx0; simp at hx0
    · exact q
  have kg : Kept S1 (S1.push ⟨[], 5, true, 0⟩) none := Kept.push _ none
  refine W_loop (fun k e S2 => ∃ i : Nat, e.get 0 = .slice (some ⟨b, 0, some n⟩) n n ∧ e.get 25 = .slice (some ⟨b, 0, some n⟩) n n ∧ e.get 26 = .int .i64 n ∧ e.get 27 = .int .i64 i ∧ i ≤ n ∧ k = n - i ∧ ((i = 0 ∧ e.get 6 = .slice (some ⟨S1.next, 0, some 0⟩) 0 (UNK + 1) ∧ S2 = S1.push ⟨[], 5, true, 0⟩) ∨ (0 < i ∧ Acc S1 S2 (e.get 6) (bs.take i).flatten))) n ⟨0, by simp only [EVB, Nat.reduceEqDiff, reduceIte, e0], by simp only [EVB, Nat.reduceEqDiff, reduceIte, e0], by simp only [EVB, Nat.reduceEqDiff, reduceIte], by simp only [EVB, Nat.reduceEqDiff, reduceIte]; rfl, Nat.zero_le _, by simp, .inl ⟨rfl, by simp only [EVB, Nat.reduceEqDiff, reduceIte], rfl⟩⟩ ?_
  clear e0 e9 e3 e10 e11 hi hk' hd hin hall
  rintro k e S2 ⟨i, e0, e25, e26, e27, hi, hk', hst⟩
  by_cases hlt : i < n
  · have hd : decide ((i : Int) < (n : Int)) = true := decide_eq_true (by omega)
    have wi : IntKind.i64.wrap ((i : Int) + 1) = ((i + 1 : Nat) : Int) := by rw [Go.Proofs.YtdfgdpjlbcnkfaaDoorAbs.wp64 (by omega) (by omega)]; omega
    obtain ⟨v, hvi⟩ : ∃ v, vs[i]? = some v := ⟨vs[i]'(by omega), by simp⟩
    obtain ⟨x, hxi, hxS⟩ := hv i v hvi
    have hft := flat_take hxi
    have hp1 := hpre (i + 1)
    rw [hft, List.length_append] at hp1
    have kS : Kept S1 S2 none := by
      rcases hst with ⟨_, _, rfl⟩ | ⟨_, hA⟩
      · exact kg
      · exact hA.kept
    have hl1 := hcell S2 kS i hlt
    rw [hvi] at hl1
    have hx2 := sl_kept hxS kS (by simp)
    rcases hst with ⟨hi0, e6, rfl⟩ | ⟨hi0, hA⟩
    · have hxx : x = x0 := by rw [hi0, hx0] at hxi; exact (Option.some.inj hxi).symm
      subst hxx
      have hl0 := hcell S1 (Kept.refl _ _) i hlt
      rw [hvi] at hl0
      repeat' (first
    | (with_reducible first | refine W_pushC fun K hK => ?_ | refine W_blockI ?_ | refine W_scopeI ?_ | refine W_labelI ?_ | refine W_skipI ?_ | refine W_retI ?_ | refine W_exitI ?_ | refine then_normalI ?_ | refine then_retI ?_ | refine then_exitI ?_ | refine inBlock_normalI ?_ | refine inBlock_retI ?_ | refine inBlock_exitI ?_ | refine inBlock_exitN (by decide) ?_)
    | ((with_reducible first | refine bodyQ_normal0 ?_ | refine bodyQ_normal1 ?_ | refine bodyQ_normal2 ?_ | refine bodyQ_normal3 ?_ | refine bodyQ_normal4 ?_ | refine bodyQ_ret0 ?_ | refine bodyQ_ret1 ?_ | refine bodyQ_ret2 ?_ | refine bodyQ_ret3 ?_ | refine bodyQ_ret4 ?_); (try simp only [EVB, Nat.reduceEqDiff, reduceIte]))
    | (with_reducible refine Cont.use (by assumption) ?_)
    | (with_reducible first | refine hcA ?_ | refine hcB ?_)
    | ((with_reducible first | refine W_condG fun cA cB hcA hcB => ?_ | refine W_regionI ?_ | show O _ _ _ _ _ _ _ _ | show OK _ _ _ _ _ _ _ _ _ | show OKF _ _ _ _ _ _ _ _ _ _ | show OKT _ _ _ _ _ _ _ _ _ _ _ _ | show _ ∧ _ | show CG _ _ _ | show CB _ _ _); simp (disch := first | ((with_reducible show isStop _ = false); rfl) | ((with_reducible show isP _ = true); rfl) | ((with_reducible show (isStop _ || isP _) = false); rfl) | assumption | (simp only [GSB, Nat.reduceEqDiff, reduceIte]; done) | omega | (with_reducible decide) | (simp only [DSB, Go.Proofs.YtdfgdpjlbcnkfaaDoorAbs.oneC, Nat.reduceAdd, Nat.reduceLeDiff] <;> omega) | fail) only [↓DN, ↓reduceIte, UP, CGB, Int.reduceEq, Int.reduceLT, Int.reduceLE, Nat.reduceEqDiff, Nat.reduceAdd, Nat.reduceMul, Nat.reduceSub, Int.reduceToNat, Nat.reduceLeDiff, PF, isStop, isP, goInt, beq_self_eq_true, decide_true, decide_false, Int.toNat_natCast, Int.natCast_zero, nn_eq, nn_ne, hd, e0, e25, e26, e27, wi, hl0])
    | ((with_reducible refine CB_intro (fun ht => hcA ?_) (fun ht => hcB ?_)) <;> (first | (simp only [Bool.true_eq_false, Bool.false_eq_true] at ht; done) | ((try simp only [Bool.not_eq_true', Bool.not_eq_false'] at ht); (try simp only [ht]); (try simp only [HTN] at ht); (try (exfalso; omega)))))
    | ((with_reducible refine W_regionI ?_); simp only [List.append_eq, List.cons_append, List.nil_append])
    | (with_reducible refine O_splitG fun cA cB hcA hcB => ?_))
      refine O_append0 (S0 := S1) (c := x) (b := S1.next) (by simp only [EVB, Nat.reduceEqDiff, reduceIte, e6]) (St.get_push_self _ _) (Nat.lt_succ_self _) (Nat.le_refl _) kg (by simp only [EVB, Nat.reduceEqDiff, reduceIte]; exact hx2) hne (by omega) fun v' S3 hA3 => ?_
      repeat' (first
    | (with_reducible first | refine W_pushC fun K hK => ?_ | refine W_blockI ?_ | refine W_scopeI ?_ | refine W_labelI ?_ | refine W_skipI ?_ | refine W_retI ?_ | refine W_exitI ?_ | refine then_normalI ?_ | refine then_retI ?_ | refine then_exitI ?_ | refine inBlock_normalI ?_ | refine inBlock_retI ?_ | refine inBlock_exitI ?_ | refine inBlock_exitN (by decide) ?_)
    | ((with_reducible first | refine bodyQ_normal0 ?_ | refine bodyQ_normal1 ?_ | refine bodyQ_normal2 ?_ | refine bodyQ_normal3 ?_ | refine bodyQ_normal4 ?_ | refine bodyQ_ret0 ?_ | refine bodyQ_ret1 ?_ | refine bodyQ_ret2 ?_ | refine bodyQ_ret3 ?_ | refine bodyQ_ret4 ?_); (try simp only [EVB, Nat.reduceEqDiff, reduceIte]))
    | (with_reducible refine Cont.use (by assumption) ?_)
    | (with_reducible first | refine hcA ?_ | refine hcB ?_)
    | ((with_reducible first | refine W_condG fun cA cB hcA hcB => ?_ | refine W_regionI ?_ | show O _ _ _ _ _ _ _ _ | show OK _ _ _ _ _ _ _ _ _ | show OKF _ _ _ _ _ _ _ _ _ _ | show OKT _ _ _ _ _ _ _ _ _ _ _ _ | show _ ∧ _ | show CG _ _ _ | show CB _ _ _); simp (disch := first | ((with_reducible show isStop _ = false); rfl) | ((with_reducible show isP _ = true); rfl) | ((with_reducible show (isStop _ || isP _) = false); rfl) | assumption | (simp only [GSB, Nat.reduceEqDiff, reduceIte]; done) | omega | (with_reducible decide) | (simp only [DSB, Go.Proofs.YtdfgdpjlbcnkfaaDoorAbs.oneC, Nat.reduceAdd, Nat.reduceLeDiff] <;> omega) | fail) only [↓DN, ↓reduceIte, UP, CGB, Int.reduceEq, Int.reduceLT, Int.reduceLE, Nat.reduceEqDiff, Nat.reduceAdd, Nat.reduceMul, Nat.reduceSub, Int.reduceToNat, Nat.reduceLeDiff, PF, isStop, isP, goInt, beq_self_eq_true, decide_true, decide_false, Int.toNat_natCast, Int.natCast_zero, nn_eq, nn_ne, e0, e25, e26, e27, wi])
    | ((with_reducible refine CB_intro (fun ht => hcA ?_) (fun ht => hcB ?_)) <;> (first | (simp only [Bool.true_eq_false, Bool.false_eq_true] at ht; done) | ((try simp only [Bool.not_eq_true', Bool.not_eq_false'] at ht); (try simp only [ht]); (try simp only [HTN] at ht); (try (exfalso; omega)))))
    | ((with_reducible refine W_regionI ?_); simp only [List.append_eq, List.cons_append, List.nil_append])
    | (with_reducible refine O_splitG fun cA cB hcA hcB => ?_)
    | ((refine ⟨_, ?_, i + 1, by simp only [EVB, Nat.reduceEqDiff, reduceIte, e0], by simp only [EVB, Nat.reduceEqDiff, reduceIte, e25], by simp only [EVB, Nat.reduceEqDiff, reduceIte, e26], by simp only [EVB, Nat.reduceEqDiff, reduceIte], by omega, rfl, .inr ⟨by omega, by simp only [EVB, Nat.reduceEqDiff, reduceIte]; rw [hft, hi0]; simpa using hA3⟩⟩; omega)))
    · repeat' (first
    | (with_reducible first | refine W_pushC fun K hK => ?_ | refine W_blockI ?_ | refine W_scopeI ?_ | refine W_labelI ?_ | refine W_skipI ?_ | refine W_retI ?_ | refine W_exitI ?_ | refine then_normalI ?_ | refine then_retI ?_ | refine then_exitI ?_ | refine inBlock_normalI ?_ | refine inBlock_retI ?_ | refine inBlock_exitI ?_ | refine inBlock_exitN (by decide) ?_)
    | ((with_reducible first | refine bodyQ_normal0 ?_ | refine bodyQ_normal1 ?_ | refine bodyQ_normal2 ?_ | refine bodyQ_normal3 ?_ | refine bodyQ_normal4 ?_ | refine bodyQ_ret0 ?_ | refine bodyQ_ret1 ?_ | refine bodyQ_ret2 ?_ | refine bodyQ_ret3 ?_ | refine bodyQ_ret4 ?_); (try simp only [EVB, Nat.reduceEqDiff, reduceIte]))
    | (with_reducible refine Cont.use (by assumption) ?_)
    | (with_reducible first | refine hcA ?_ | refine hcB ?_)
    | ((with_reducible first | refine W_condG fun cA cB hcA hcB => ?_ | refine W_regionI ?_ | show O _ _ _ _ _ _ _ _ | show OK _ _ _ _ _ _ _ _ _ | show OKF _ _ _ _ _ _ _ _ _ _ | show OKT _ _ _ _ _ _ _ _ _ _ _ _ | show _ ∧ _ | show CG _ _ _ | show CB _ _ _); simp (disch := first | ((with_reducible show isStop _ = false); rfl) | ((with_reducible show isP _ = true); rfl) | ((with_reducible show (isStop _ || isP _) = false); rfl) | assumption | (simp only [GSB, Nat.reduceEqDiff, reduceIte]; done) | omega | (with_reducible decide) | (simp only [DSB, Go.Proofs.YtdfgdpjlbcnkfaaDoorAbs.oneC, Nat.reduceAdd, Nat.reduceLeDiff] <;> omega) | fail) only [↓DN, ↓reduceIte, UP, CGB, Int.reduceEq, Int.reduceLT, Int.reduceLE, Nat.reduceEqDiff, Nat.reduceAdd, Nat.reduceMul, Nat.reduceSub, Int.reduceToNat, Nat.reduceLeDiff, PF, isStop, isP, goInt, beq_self_eq_true, decide_true, decide_false, Int.toNat_natCast, Int.natCast_zero, nn_eq, nn_ne, hd, e0, e25, e26, e27, wi, hl1])
    | ((with_reducible refine CB_intro (fun ht => hcA ?_) (fun ht => hcB ?_)) <;> (first | (simp only [Bool.true_eq_false, Bool.false_eq_true] at ht; done) | ((try simp only [Bool.not_eq_true', Bool.not_eq_false'] at ht); (try simp only [ht]); (try simp only [HTN] at ht); (try (exfalso; omega)))))
    | ((with_reducible refine W_regionI ?_); simp only [List.append_eq, List.cons_append, List.nil_append])
    | (with_reducible refine O_splitG fun cA cB hcA hcB => ?_))
      refine O_accB (S0 := S1) (a := (bs.take i).flatten) (c := x) (by simp only [EVB, Nat.reduceEqDiff, reduceIte]; exact hA) (by simp only [EVB, Nat.reduceEqDiff, reduceIte]; exact hx2) (by omega) fun v' S3 hA3 _ => ?_
      repeat' (first
    | (with_reducible first | refine W_pushC fun K hK => ?_ | refine W_blockI ?_ | refine W_scopeI ?_ | refine W_labelI ?_ | refine W_skipI ?_ | refine W_retI ?_ | refine W_exitI ?_ | refine then_normalI ?_ | refine then_retI ?_ | refine then_exitI ?_ | refine inBlock_normalI ?_ | refine inBlock_retI ?_ | refine inBlock_exitI ?_ | refine inBlock_exitN (by decide) ?_)
    | ((with_reducible first | refine bodyQ_normal0 ?_ | refine bodyQ_normal1 ?_ | refine bodyQ_normal2 ?_ | refine bodyQ_normal3 ?_ | refine bodyQ_normal4 ?_ | refine bodyQ_ret0 ?_ | refine bodyQ_ret1 ?_ | refine bodyQ_ret2 ?_ | refine bodyQ_ret3 ?_ | refine bodyQ_ret4 ?_); (try simp only [EVB, Nat.reduceEqDiff, reduceIte]))
    | (with_reducible refine Cont.use (by assumption) ?_)
    | (with_reducible first | refine hcA ?_ | refine hcB ?_)
    | ((with_reducible first | refine W_condG fun cA cB hcA hcB => ?_ | refine W_regionI ?_ | show O _ _ _ _ _ _ _ _ | show OK _ _ _ _ _ _ _ _ _ | show OKF _ _ _ _ _ _ _ _ _ _ | show OKT _ _ _ _ _ _ _ _ _ _ _ _ | show _ ∧ _ | show CG _ _ _ | show CB _ _ _); simp (disch := first | ((with_reducible show isStop _ = false); rfl) | ((with_reducible show isP _ = true); rfl) | ((with_reducible show (isStop _ || isP _) = false); rfl) | assumption | (simp only [GSB, Nat.reduceEqDiff, reduceIte]; done) | omega | (with_reducible decide) | (simp only [DSB, Go.Proofs.YtdfgdpjlbcnkfaaDoorAbs.oneC, Nat.reduceAdd, Nat.reduceLeDiff] <;> omega) | fail) only [↓DN, ↓reduceIte, UP, CGB, Int.reduceEq, Int.reduceLT, Int.reduceLE, Nat.reduceEqDiff, Nat.reduceAdd, Nat.reduceMul, Nat.reduceSub, Int.reduceToNat, Nat.reduceLeDiff, PF, isStop, isP, goInt, beq_self_eq_true, decide_true, decide_false, Int.toNat_natCast, Int.natCast_zero, nn_eq, nn_ne, e0, e25, e26, e27, wi])
    | ((with_reducible refine CB_intro (fun ht => hcA ?_) (fun ht => hcB ?_)) <;> (first | (simp only [Bool.true_eq_false, Bool.false_eq_true] at ht; done) | ((try simp only [Bool.not_eq_true', Bool.not_eq_false'] at ht); (try simp only [ht]); (try simp only [HTN] at ht); (try (exfalso; omega)))))
    | ((with_reducible refine W_regionI ?_); simp only [List.append_eq, List.cons_append, List.nil_append])
    | (with_reducible refine O_splitG fun cA cB hcA hcB => ?_)
    | ((refine ⟨_, ?_, i + 1, by simp only [EVB, Nat.reduceEqDiff, reduceIte, e0], by simp only [EVB, Nat.reduceEqDiff, reduceIte, e25], by simp only [EVB, Nat.reduceEqDiff, reduceIte, e26], by simp only [EVB, Nat.reduceEqDiff, reduceIte], by omega, rfl, .inr ⟨by omega, by simp only [EVB, Nat.reduceEqDiff, reduceIte]; rw [hft]; exact hA3⟩⟩; omega)))
  · have hd : decide ((i : Int) < (n : Int)) = false := decide_eq_false (by omega)
    have hall : bs.take i = bs := List.take_of_length_le (by omega)
    rcases hst with ⟨rfl, _, _⟩ | ⟨_, hA⟩
    · omega
    rw [hall] at hA
    repeat' (first
    | (with_reducible first | refine W_pushC fun K hK => ?_ | refine W_blockI ?_ | refine W_scopeI ?_ | refine W_labelI ?_ | refine W_skipI ?_ | refine W_retI ?_ | refine W_exitI ?_ | refine then_normalI ?_ | refine then_retI ?_ | refine then_exitI ?_ | refine inBlock_normalI ?_ | refine inBlock_retI ?_ | refine inBlock_exitI ?_ | refine inBlock_exitN (by decide) ?_)
    | ((with_reducible first | refine bodyQ_normal0 ?_ | refine bodyQ_normal1 ?_ | refine bodyQ_normal2 ?_ | refine bodyQ_normal3 ?_ | refine bodyQ_normal4 ?_ | refine bodyQ_ret0 ?_ | refine bodyQ_ret1 ?_ | refine bodyQ_ret2 ?_ | refine bodyQ_ret3 ?_ | refine bodyQ_ret4 ?_); (try simp only [EVB, Nat.reduceEqDiff, reduceIte]))
    | (with_reducible refine Cont.use (by assumption) ?_)
    | (with_reducible first | refine hcA ?_ | refine hcB ?_)
    | ((with_reducible first | refine W_condG fun cA cB hcA hcB => ?_ | refine W_regionI ?_ | show O _ _ _ _ _ _ _ _ | show OK _ _ _ _ _ _ _ _ _ | show OKF _ _ _ _ _ _ _ _ _ _ | show OKT _ _ _ _ _ _ _ _ _ _ _ _ | show _ ∧ _ | show CG _ _ _ | show CB _ _ _); simp (disch := first | ((with_reducible show isStop _ = false); rfl) | ((with_reducible show isP _ = true); rfl) | ((with_reducible show (isStop _ || isP _) = false); rfl) | assumption | (simp only [GSB, Nat.reduceEqDiff, reduceIte]; done) | omega | (with_reducible decide) | (simp only [DSB, Go.Proofs.YtdfgdpjlbcnkfaaDoorAbs.oneC, Nat.reduceAdd, Nat.reduceLeDiff] <;> omega) | fail) only [↓DN, ↓reduceIte, UP, CGB, Int.reduceEq, Int.reduceLT, Int.reduceLE, Nat.reduceEqDiff, Nat.reduceAdd, Nat.reduceMul, Nat.reduceSub, Int.reduceToNat, Nat.reduceLeDiff, PF, isStop, isP, goInt, beq_self_eq_true, decide_true, decide_false, Int.toNat_natCast, Int.natCast_zero, nn_eq, nn_ne, hd, e0, e25, e26, e27])
    | ((with_reducible refine CB_intro (fun ht => hcA ?_) (fun ht => hcB ?_)) <;> (first | (simp only [Bool.true_eq_false, Bool.false_eq_true] at ht; done) | ((try simp only [Bool.not_eq_true', Bool.not_eq_false'] at ht); (try simp only [ht]); (try simp only [HTN] at ht); (try (exfalso; omega)))))
    | ((with_reducible refine W_regionI ?_); simp only [List.append_eq, List.cons_append, List.nil_append])
    | (with_reducible refine O_splitG fun cA cB hcA hcB => ?_)
    | (exact hQ _ _ hA))
end
end Go.Proofs.YtdfgdpjlbcnkfaaDoor.Q
