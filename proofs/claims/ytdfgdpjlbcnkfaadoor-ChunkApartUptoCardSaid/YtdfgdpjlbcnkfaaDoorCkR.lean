/- The chunk reader on the runner: its functions, the law that feeds it, the plain part; for the inputs that each theorem names. -/
import Derived.Test.YtdfgdpjlbcnkfaaDoorCkC
import Derived.Lib.SlTrimSet
-- UF: CkFacts
namespace Go.Proofs.YtdfgdpjlbcnkfaaDoor.Q
open Go Go.Proofs.YtdfgdpjlbcnkfaaDoorAbs Go.Proofs
set_option linter.unusedVariables false
set_option linter.unusedSimpArgs false
set_option maxRecDepth 100000
attribute [local irreducible] Go.Proofs.YtdfgdpjlbcnkfaaDoorAbs.O Go.Proofs.YtdfgdpjlbcnkfaaDoorAbs.W Go.Proofs.YtdfgdpjlbcnkfaaDoorAbs.C Go.Proofs.YtdfgdpjlbcnkfaaDoorAbs.OK Go.Proofs.YtdfgdpjlbcnkfaaDoorAbs.OKF Go.Proofs.YtdfgdpjlbcnkfaaDoorAbs.then_ Go.Proofs.YtdfgdpjlbcnkfaaDoorAbs.inBlock_ Go.Proofs.YtdfgdpjlbcnkfaaDoorAbs.bodyQ Go.Proofs.YtdfgdpjlbcnkfaaDoorAbs.Cont
abbrev Fld := ByteArray × ByteArray
def u8v (l : List UInt8) : List Value := l.map fun b => .int .u8 b.toNat
def fldv (l : List Fld) : List Value := l.flatMap fun f => [.string f.1, .string f.2]
abbrev PRd := CR (List UInt8) (List Fld)
def CR.as {α β γ δ : Type} (r : CR α β) (t : γ) (l : δ) : CR γ δ := ⟨r.most, r.len, r.state, r.err, r.digits, r.left, r.over, r.extra, t, r.sum, l⟩
def trimB (s : ByteArray) : ByteArray := ⟨(Go.Lib.trimS s.data.toList [32, 9]).toArray⟩
def isPrim (f : Nat) : Bool := f == 14 || f == 11 || f == 68 || f == 60 || f == 88 || f == 55
structure HI (I : Prims) : Prop where
  no : ∀ f, isPrim f = false → ∀ k, I k f = none
  idxS : IdxS I
  idxB : ∀ (S : St) (v : Value) (n : Nat) (xs : List UInt8) (c : Int) (Q : Value → St → Prop), Own 5 1 S v n (u8v xs) → Q (.int .i64 (Go.Lib.indexByte xs c.toNat.toUInt8)) S → C Tryd.prog I 60 #[v, .int .u8 c] S Q
  idx1 : ∀ (S : St) (v : Value) (n : Nat) (xs : List UInt8) (b2 m : Nat) (c : Int) (Q : Value → St → Prop), Own 5 1 S v n (u8v xs) → 0 < n → S.get b2 = some ⟨[.int .u8 c], 5, true, m⟩ → m ≤ 1 → Q (.int .i64 (Go.Lib.indexByte xs c.toNat.toUInt8)) S → C Tryd.prog I 88 #[v, .slice (some ⟨b2, 0, some 1⟩) 1 1] S Q
  trim : ∀ (S : St) (s : ByteArray) (Q : Value → St → Prop), s.size ≤ 9223372036854775807 → Q (.string (trimB s)) S → C Tryd.prog I 55 #[.string s, .string ⟨#[32, 9]⟩] S Q
/-- A reader in memory. -/
structure Rd (S : St) (b : Nat) (r : PRd) (tv lv : Value) (m : Nat) : Prop where
  cell : S.get b = some ⟨(r.as tv lv).cells, 62, true, m⟩
  hm : m ≤ 11
  hn : b < S.next
  text : Own 5 1 S tv r.text.length (u8v r.text)
  trl : Own 66 2 S lv r.trailers.length (fldv r.trailers)
  n1 : blkOf tv ≠ some b
  n2 : blkOf lv ≠ some b
  n3 : blkOf tv = none ∨ blkOf tv ≠ blkOf lv
structure Mv (S S' : St) (b : Nat) (tv lv tv' lv' : Value) : Prop where
  next : S.next ≤ S'.next
  keep : ∀ i, i < S.next → i ≠ b → blkOf tv ≠ some i → blkOf lv ≠ some i → S'.get i = S.get i
  t : ∀ i, blkOf tv' = some i → blkOf tv = some i ∨ S.next ≤ i
  l : ∀ i, blkOf lv' = some i → blkOf lv = some i ∨ S.next ≤ i
theorem Mv.refl {S : St} {b : Nat} {tv lv : Value} : Mv S S b tv lv tv lv := ⟨Nat.le_refl _, fun _ _ _ _ _ => rfl, fun _ h => .inl h, fun _ h => .inl h⟩
theorem Mv.trans {S S1 S2 : St} {b : Nat} {tv lv tv1 lv1 tv2 lv2 : Value} (h : Mv S S1 b tv lv tv1 lv1) (k : Mv S1 S2 b tv1 lv1 tv2 lv2) : Mv S S2 b tv lv tv2 lv2 := by
  refine ⟨Nat.le_trans h.next k.next, fun i h1 h2 h3 h4 => ?_, fun i hi => ?_, fun i hi => ?_⟩
  · rw [k.keep i (Nat.lt_of_lt_of_le h1 h.next) h2 (fun e => ?_) (fun e => ?_), h.keep i h1 h2 h3 h4]
    · rcases h.t i e with q | q
      · exact h3 q
      · omega
    · rcases h.l i e with q | q
      · exact h4 q
      · omega
  · rcases k.t i hi with q | q
    · exact h.t i q
    · exact .inr (Nat.le_trans h.next q)
  · rcases k.l i hi with q | q
    · exact h.l i q
    · exact .inr (Nat.le_trans h.next q)
theorem own_upd {el sz n b : Nat} {S : St} {v : Value} {xs : List Value} {B : Blk} (h : Own el sz S v n xs) (hb : blkOf v ≠ some b) : Own el sz (S.upd b B) v n xs :=
  h.kept (o := some b) ⟨Nat.le_refl _, fun i _ hi => S.get_upd_ne B (fun e => hi (by rw [e]))⟩ (.inr (Ne.symm hb))
theorem own_push {el sz n : Nat} {S : St} {v : Value} {xs : List Value} {B : Blk} (h : Own el sz S v n xs) : Own el sz (S.push B) v n xs :=
  h.kept (o := none) (Kept.push B none) (.inl rfl)
theorem own_low {el sz n l : Nat} {S : St} {v : Value} {xs : List Value} (h : Own el sz S v n xs) : Own el sz (S.withLow l) v n xs := h
theorem Rd.upd {S : St} {b m : Nat} {r : PRd} {tv lv : Value} (h : Rd S b r tv lv m) (r' : PRd) {cs : List Value} (e : cs = (r'.as tv lv).cells) (et : r'.text = r.text) (el : r'.trailers = r.trailers) : Rd (S.upd b ⟨cs, 62, true, 11⟩) b r' tv lv 11 := by
  subst e
  exact ⟨S.get_upd_self _ _, Nat.le_refl _, h.hn, et ▸ own_upd h.text h.n1, el ▸ own_upd h.trl h.n2, h.n1, h.n2, h.n3⟩
theorem kept_upd_push {S : St} {b : Nat} {B B2 : Blk} : Kept S ((S.upd b B).push B2) (some b) :=
  ⟨Nat.le_succ _, fun i hi hne => by rw [St.get_push_ne (S.upd b B) _ (Nat.ne_of_lt hi), St.get_upd_ne _ _ (fun e => hne (by rw [e]))]⟩
theorem Mv.upd {S : St} {b : Nat} {tv lv : Value} {B : Blk} : Mv S (S.upd b B) b tv lv tv lv := ⟨Nat.le_refl _, fun i _ h _ _ => S.get_upd_ne B h, fun _ h => .inl h, fun _ h => .inl h⟩
theorem own_lt {el sz n i : Nat} {S : St} {v : Value} {xs : List Value} (h : Own el sz S v n xs) (hi : blkOf v = some i) : i < S.next := by
  rcases h.2.2 with ⟨rfl, _⟩ | ⟨b, m, rfl, _, _, h3, _⟩
  · cases hi
  · cases hi; exact h3
/-- What stands behind an append to the text. -/
theorem Rd.text1 {S S2 S1 : St} {b : Nat} {r r' : PRd} {tv lv v1 : Value} {m : Nat} {cs : List Value} {c : UInt8} (h : Rd S b r tv lv m) (h2 : Kept S S2 (some b)) (hO : Own 5 1 S1 v1 (r.text.length + 1) (u8v r.text ++ [.int .u8 c.toNat])) (hK : Kept S2 S1 (blkOf tv)) (hB : blkOf v1 = blkOf tv ∨ ∃ i, S2.next ≤ i ∧ blkOf v1 = some i)
    (ht : r'.text = r.text ++ [c]) (e : cs = (r'.as v1 lv).cells) (el : r'.trailers = r.trailers) : Rd (S1.upd b ⟨cs, 62, true, 11⟩) b r' v1 lv 11 ∧ Mv S (S1.upd b ⟨cs, 62, true, 11⟩) b tv lv v1 lv := by
  subst e
  have hb2 : b < S2.next := Nat.lt_of_lt_of_le h.hn h2.1
  have hO' : Own 5 1 S1 v1 r'.text.length (u8v r'.text) := by rw [ht]; simpa [u8v] using hO
  have hv : blkOf v1 ≠ some b := by
    rcases hB with q | ⟨i, q1, q2⟩
    · rw [q]; exact h.n1
    · rw [q2]; intro z; cases z; omega
  have htl : Own 66 2 S1 lv r.trailers.length (fldv r.trailers) := (h.trl.kept h2 (.inr (Ne.symm h.n2))).kept hK (by
    rcases h.n3 with q | q
    · exact .inl q
    · exact .inr q)
  refine ⟨⟨S1.get_upd_self _ _, Nat.le_refl _, Nat.lt_of_lt_of_le hb2 hK.1, own_upd hO' hv, el ▸ own_upd htl h.n2, hv, h.n2, ?_⟩, ⟨Nat.le_trans h2.1 hK.1, fun i h1 h3 h4 h5 => ?_, fun i hi => ?_, fun i hi => .inl hi⟩⟩
  · rcases hB with q | ⟨i, q1, q2⟩
    · rw [q]; exact h.n3
    · right
      rw [q2]
      intro z
      have := own_lt h.trl z.symm
      have := h2.1
      omega
  · rw [S1.get_upd_ne _ h3, hK.2 i (Nat.lt_of_lt_of_le h1 h2.1) h4, h2.2 i h1 (fun z => h3 (by cases z; rfl))]
  · rcases hB with q | ⟨j, q1, q2⟩
    · exact .inl (q ▸ hi)
    · rw [q2] at hi; cases hi; exact .inr (Nat.le_trans h2.1 q1)
/-- What stands behind an append to the trailers; the text is given up. -/
theorem Rd.trl1 {S S2 S1 : St} {b : Nat} {r r' : PRd} {tv lv v1 : Value} {m : Nat} {cs : List Value} {f : Fld} (h : Rd S b r tv lv m) (h2 : Kept S S2 (some b)) (hO : Own 66 2 S1 v1 (r.trailers.length + 1) (fldv r.trailers ++ [.string f.1, .string f.2])) (hK : Kept S2 S1 (blkOf lv)) (hB : blkOf v1 = blkOf lv ∨ ∃ i, S2.next ≤ i ∧ blkOf v1 = some i)
    (ht : r'.text = []) (e : cs = (r'.as (.slice none 0 0) v1).cells) (el : r'.trailers = r.trailers ++ [f]) : Rd (S1.upd b ⟨cs, 62, true, 11⟩) b r' (.slice none 0 0) v1 11 ∧ Mv S (S1.upd b ⟨cs, 62, true, 11⟩) b tv lv (.slice none 0 0) v1 := by
  subst e
  have hb2 : b < S2.next := Nat.lt_of_lt_of_le h.hn h2.1
  have hO' : Own 66 2 S1 v1 r'.trailers.length (fldv r'.trailers) := by rw [el]; simpa [fldv] using hO
  have hv : blkOf v1 ≠ some b := by
    rcases hB with q | ⟨i, q1, q2⟩
    · rw [q]; exact h.n2
    · rw [q2]; intro z; cases z; omega
  refine ⟨⟨S1.get_upd_self _ _, Nat.le_refl _, Nat.lt_of_lt_of_le hb2 hK.1, by rw [ht]; exact Own.nil _ _ _, own_upd hO' hv, by simp [blkOf], hv, .inl rfl⟩, ⟨Nat.le_trans h2.1 hK.1, fun i h1 h3 h4 h5 => ?_, fun i hi => by simp [blkOf] at hi, fun i hi => ?_⟩⟩
  · rw [S1.get_upd_ne _ h3, hK.2 i (Nat.lt_of_lt_of_le h1 h2.1) h5, h2.2 i h1 (fun z => h3 (by cases z; rfl))]
  · rcases hB with q | ⟨j, q1, q2⟩
    · exact .inl (q ▸ hi)
    · rw [q2] at hi; cases hi; exact .inr (Nat.le_trans h2.1 q1)
end Go.Proofs.YtdfgdpjlbcnkfaaDoor.Q
