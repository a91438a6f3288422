/- What the law ChunkBack needs, part 5: the runner over a plain memory, words, the functions that it reaches, each by its own contract; for the inputs that each theorem names. -/
import Derived.Test.YtdfgdpjlbcnkfaaDoorChunkBackP4
import Derived.Test.YtdfgdpjlbcnkfaaDoorChunkBackQ0
namespace Go.Proofs.YtdfgdpjlbcnkfaaDoor.Q
open Go Go.Proofs.YtdfgdpjlbcnkfaaDoorAbs Go.Proofs Go.RowKit Go.Proofs.YtdfgdpjlbcnkfaaDoorW.PrintWords
set_option linter.unusedVariables false
set_option linter.unusedSimpArgs false
def by8 (x : List Int) : List UInt8 := x.map fun y => y.toNat.toUInt8
theorem row_sl {S : St} {l0 : List Int} (h : ∀ x ∈ l0, 0 ≤ x ∧ x < 256) : Sl (S.theirs (l0.map (Value.int .u8))) (.slice (some ⟨S.next, 0, some 0⟩) l0.length (UNK + 1)) (by8 l0) := by
  have hlen : (by8 l0).length = l0.length := by simp [by8]
  refine ⟨some ⟨S.next, 0, some 0⟩, UNK + 1, by rw [hlen], (fun q => by cases q), fun _ => ⟨S.next, 0, 0, u8v (by8 l0), 0, false, 0, rfl, .inl rfl, ?_, (fun q => by cases q), ?_, Nat.lt_succ_self _⟩⟩
  · have := u8_of l0 h
    simp only [by8]
    rw [← this]; simp [St.theirs]
  · rw [List.drop_zero]
    exact List.take_of_length_le (by simp [u8v])
theorem sl_more {S S' : St} {v : Value} {xs : List UInt8} (h : Sl S v xs) (hn : S.next ≤ S'.next) (hg : ∀ j, j < S.next → S'.get j = S.get j) : Sl S' v xs :=
  sl_kept h (o' := none) ⟨hn, fun i hi _ => hg i hi⟩ (by simp)
theorem rows_start {w : World} : ∀ (l : List (List Int)) (f : Nat → Option Value) {ρ : Ren} {S : St}, Go.Proofs.YtdfgdpjlbcnkfaaDoorAbs.Start Tryd.prog ρ S w → (∀ (j : Nat) (x : List Int), l[j]? = some x → ∃ A c, f j = some (.slice A x.length c) ∧ x.length ≤ c ∧ Kd.C (Kd.int .u8) w A x.length x) → (∀ x ∈ l, ∀ y ∈ x, 0 ≤ y ∧ y < 256) →
    ∃ (ρ' : Ren) (S' : St) (vs : List Value), ρ.le ρ' ∧ Go.Proofs.YtdfgdpjlbcnkfaaDoorAbs.Start Tryd.prog ρ' S' w ∧ S.next ≤ S'.next ∧ (∀ j, j < S.next → S'.get j = S.get j) ∧ vs.length = l.length ∧ ∀ (j : Nat) (v : Value), vs[j]? = some v → ∃ x v', l[j]? = some x ∧ f j = some v' ∧ VR ρ' v v' ∧ Sl S' v (by8 x)
  | [], f, ρ, S, st, _, _ => ⟨ρ, S, [], Ren.le_refl ρ, st, Nat.le_refl _, fun _ _ => rfl, rfl, fun j v h => by simp at h⟩
  | x :: l, f, ρ, S, st, hf, hb => by
    obtain ⟨A, c, hf0, hc, hr⟩ := hf 0 x rfl
    obtain ⟨ρ1, hle1, st1, hv1⟩ := st.row 1 (x.map (Value.int .u8)) A x.length c hc (by simp) (row_leaf hr)
    obtain ⟨ρ2, S2, vs, hle2, st2, hn2, hg2, hl2, h2⟩ := rows_start l (fun j => f (j + 1)) st1 (fun j y hy => hf (j + 1) y hy) (fun y hy => hb y (by simp [hy]))
    have hn1 : (S.theirs (x.map (Value.int .u8))).next = S.next + 1 := rfl
    refine ⟨ρ2, S2, .slice (some ⟨S.next, 0, some 0⟩) x.length (UNK + 1) :: vs, Ren.le_trans hle1 hle2, st2, by omega, fun j hj => ?_, by simp [hl2], fun j v hj => ?_⟩
    · rw [hg2 j (by omega)]
      simp only [St.theirs]
      rw [if_neg (by omega)]
    · cases j with
      | zero =>
        simp at hj
        subst hj
        exact ⟨x, _, rfl, hf0, hv1.mono hle2, sl_more (row_sl (hb x (by simp))) hn2 hg2⟩
      | succ j =>
        have := h2 j v (by simpa using hj)
        simpa using this
def fld66 (x : S66) : Fld := (x.f0, x.f1)
theorem fld66_at : ∀ (l : List S66) (j : Nat) (v : Value), (fldv (l.map fld66))[j]? = some v → ∃ p, l[j / 2]? = some p ∧ ([Value.string p.f0, Value.string p.f1] : List Value)[j % 2]? = some v
  | [], j, v, h => by simp [fldv] at h
  | x :: l, 0, v, h => ⟨x, rfl, h⟩
  | x :: l, 1, v, h => ⟨x, rfl, h⟩
  | x :: l, j + 2, v, h => by
    have h' : (fldv (l.map fld66))[j]? = some v := h
    obtain ⟨p, h1, h2⟩ := fld66_at l j v h'
    refine ⟨p, ?_, by rw [Nat.add_mod_right]; exact h2⟩
    rw [show (j + 2) / 2 = j / 2 + 1 by omega]
    simpa using h1
theorem two_leaf (p : S66) (i : Nat) (v : Value) (h : ([Value.string p.f0, Value.string p.f1] : List Value)[i]? = some v) : leaf v = true := by
  match i, h with
  | 0, h => cases h; rfl
  | 1, h => cases h; rfl
theorem theirs_lt {S : St} {cs : List Value} {j : Nat} (h : j < S.next) : (S.theirs cs).get j = S.get j := by
  simp only [St.theirs]
  rw [if_neg (by omega)]
theorem turnstilelaw12_ChunkBack.calls (A0 : Option Addr) (c0 : Nat) (l0 : List (List Int)) (A1 : Option Addr) (c1 : Nat) (l1 : List S66) (z2 : ByteArray) (w : World) (hr0 : Kd.C (Kd.slice 5 (Kd.int .u8)) w A0 l0.length l0) (hc0 : l0.length ≤ c0)
    (hr1 : Kd.C k66 w A1 l1.length l1) (hc1 : l1.length ≤ c1) (hT : TabMet w) (hG : 7 < w.heap.size)
    (hp : (l0.length ≤ 1048576 ∧ ∀ x ∈ l0, x.length ≤ 1048576 ∧ ∀ y ∈ x, 0 ≤ y ∧ y < 256) ∧ (l1.length ≤ 1048576 ∧ ∀ x ∈ l1, x.f0.size ≤ 1048576 ∧ x.f1.size ≤ 1048576) ∧ z2.size ≤ 1048576) :
    Calls Tryd.prog 8 #[.slice A0 l0.length c0, .slice A1 l1.length c1, .string z2] w fun e w' => e = .returned (.bool true) ∧ Below w.heap.size w w' := by
  obtain ⟨⟨hp0, hp1⟩, ⟨hq0, hq1⟩, hz⟩ := hp
  have st0 := start64 hT hG
  obtain ⟨f, hf1, hf2⟩ : ∃ f : Nat → Option Value, (∀ (j : Nat) (x : List Int), l0[j]? = some x → ∃ A c, f j = some (.slice A x.length c) ∧ x.length ≤ c ∧ Kd.C (Kd.int .u8) w A x.length x) ∧ (0 < l0.length → ∃ ad, A0 = some ad ∧ ∀ j v, f j = some v → w.cell? (ad.add j) = some v) := by
    by_cases h0 : 0 < l0.length
    · obtain ⟨ad, e, hc⟩ := hr0.2.2 h0
      refine ⟨fun j => w.cell? (ad.add j), fun j x hj => ?_, fun _ => ⟨ad, e, fun j v h => h⟩⟩
      obtain ⟨cs, h1, h2, h3⟩ := hc j x hj
      obtain ⟨A, c, rfl, q1, q2⟩ := h2
      refine ⟨A, c, ?_, q1, q2⟩
      have h4 := h3 0 _ rfl
      have e1 : (Kd.slice 5 (Kd.int .u8)).sz = 1 := rfl
      rw [e1, Nat.mul_one, Nat.add_zero] at h4
      exact h4
    · have : l0 = [] := List.length_eq_zero_iff.1 (by omega)
      subst this
      exact ⟨fun _ => none, fun j x hj => by simp at hj, fun q => absurd q h0⟩
  obtain ⟨ρ1, S1, vs, hle1, st1, hn1, hg1, hl1, hv1⟩ := rows_start l0 f st0 hf1 (fun x hx => (hp1 x hx).2)
  obtain ⟨ρ2, hle2, st2, hv2⟩ := st1.row 1 vs A0 l0.length c0 hc0 (by rw [← hl1]; exact List.length_eq_zero_iff) (fun h0 => by
    obtain ⟨ad, e, hc⟩ := hf2 h0
    refine ⟨ad, e, fun j v hj => ?_⟩
    obtain ⟨x, v', _, h3, h4, _⟩ := hv1 j v hj
    exact ⟨v', hc j v' h3, h4⟩)
  have hfl : (fldv (l1.map fld66)).length = l1.length * 2 := by rw [fldv_len]; simp
  obtain ⟨ρ3, hle3, st3, hv3⟩ := st2.row 2 (fldv (l1.map fld66)) A1 l1.length c1 hc1 (by rw [← List.length_eq_zero_iff]; omega) (fun hpos => by
    obtain ⟨ad, e, hcell⟩ := hr1.2.2 hpos
    refine ⟨ad, e, fun j v hj => ?_⟩
    obtain ⟨p, h1, h2⟩ := fld66_at l1 j v hj
    obtain ⟨c, _, hK, hc⟩ := hcell (j / 2) p h1
    have ec := k66_open hK
    subst ec
    refine ⟨v, ?_, .leaf _ (two_leaf p _ v h2)⟩
    have := hc (j % 2) v h2
    rwa [show j / 2 * k66.sz + j % 2 = j from Nat.div_add_mod' j 2] at this)
  have hlen : (l0.map by8).length = l0.length := by simp
  have hlen1 : (l1.map fld66).length = l1.length := by simp
  have ez : z2 = ⟨z2.data.toList.toArray⟩ := by apply ByteArray.ext; simp
  refine st3.law primsG_sim mixed rfl (xs := #[.slice (some ⟨S1.next, 0, some 0⟩) l0.length (UNK + 1), .slice (some ⟨S1.next + 1, 0, some 0⟩) l1.length (UNK + 2), .string z2]) (VRL.cons (hv2.mono hle3) (VRL.cons hv3 (VRL.cons (VR.scalar rfl) (VRL.nil _)))) ?_
  have hS2 : ∀ j, j < S1.next → ((S1.theirs vs).theirs (fldv (l1.map fld66))).get j = S1.get j := fun j hj => (theirs_lt (show j < S1.next + 1 by omega)).trans (theirs_lt hj)
  have hnx : ((S1.theirs vs).theirs (fldv (l1.map fld66))).next = S1.next + 2 := rfl
  have hn0 : (St.start 7 gl64).next = 8 := rfl
  rw [ez]
  conv => arg 4; rw [← hlen]
  refine cback_walk primsG_ok primsG_grow primsG_tz (pb := S1.next) (lb := S1.next + 1) (vs := vs) (ps := l0.map by8) (l := l1.map fld66) (bh := z2.data.toList) ?_ (by omega) (by rw [hl1, hlen]) (by rw [hlen]; exact hp0) (by simp [St.theirs]) (by omega) (fun i v hi => ?_) ⟨by rw [hlen1], by simp [St.theirs], by omega⟩ (by rw [hlen1]; exact hq0) (fun g hg => ?_) (by rw [Array.length_toList]; exact hz) ?_
  · rw [hS2 6 (by omega), hg1 6 (by omega)]
    simp [St.start, gl64]
  · obtain ⟨x, v', h1, _, _, h4⟩ := hv1 i v hi
    refine ⟨by8 x, by simp [h1], ?_, sl_more h4 (by omega) hS2⟩
    have := (hp1 x (List.mem_of_getElem? h1)).1
    simpa [by8] using this
  · obtain ⟨x, hx, rfl⟩ := List.mem_map.1 hg
    exact hq1 x hx
  · intro S'; rfl
end Go.Proofs.YtdfgdpjlbcnkfaaDoor.Q
