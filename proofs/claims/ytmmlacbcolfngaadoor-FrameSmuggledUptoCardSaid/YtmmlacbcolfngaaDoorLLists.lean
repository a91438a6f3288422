/- Plain Lean on what the printed functions answer (Lists); for all arguments that the lemmas name. -/
import Derived.Test.YtmmlacbcolfngaaDoorQ0
import Derived.Test.YtmmlacbcolfngaaDoorLStrs
import Derived.Test.YtmmlacbcolfngaaDoorQChars3
import Derived.Test.YtmmlacbcolfngaaDoorQTurnstileref015
namespace Go.Proofs.YtmmlacbcolfngaaDoor.Q
open Go.RowKit Go.Proofs.YtmmlacbcolfngaaDoorW.PrintWords Go.Proofs.YtmmlacbcolfngaaDoorW.PrintLast Go.Proofs.YtmmlacbcolfngaaDoorW.PrintMore
set_option linter.unusedVariables false
set_option linter.unusedSimpArgs false
def splitL : List UInt8 → List (List UInt8)
  | [] => [[]]
  | b :: l => if b = 44 then [] :: splitL l else match splitL l with
    | [] => [[b]]
    | h :: t => (b :: h) :: t
theorem splitL_ne : ∀ l, splitL l ≠ []
  | [] => by simp [splitL]
  | b :: l => by
    unfold splitL
    split
    · simp
    · split <;> simp
theorem splitL_free : ∀ l : List UInt8, 44 ∉ l → splitL l = [l]
  | [], _ => rfl
  | b :: l, h => by
    unfold splitL
    rw [if_neg (fun e => h (by simp [e])), splitL_free l (fun e => h (by simp [e]))]
theorem splitL_app : ∀ (p l : List UInt8), 44 ∉ p → splitL (p ++ l) = match splitL l with | [] => [p] | h :: t => (p ++ h) :: t
  | [], l, _ => by
    cases h : splitL l with
    | nil => exact absurd h (splitL_ne l)
    | cons h t => simp [h]
  | b :: p, l, hp => by
    have ih := splitL_app p l (fun e => hp (by simp [e]))
    rw [List.cons_append, splitL, if_neg (fun e => hp (by simp [e])), ih]
    cases h : splitL l with
    | nil => exact absurd h (splitL_ne l)
    | cons h t => rfl
theorem splitL_comma (p l : List UInt8) (h : 44 ∉ p) : splitL (p ++ 44 :: l) = p :: splitL l := by
  rw [splitL_app p _ h]
  simp [splitL]
theorem splitL_mem : ∀ (l : List UInt8) (x : List UInt8), x ∈ splitL l → 44 ∉ x ∧ x.length ≤ l.length
  | [], x, h => by simp [splitL] at h; subst h; simp
  | b :: l, x, h => by
    unfold splitL at h
    split at h
    · rcases List.mem_cons.1 h with rfl | h
      · simp
      · have := splitL_mem l x h
        exact ⟨this.1, by simp; omega⟩
    · rename_i hb
      split at h
      · simp at h; subst h; exact ⟨by simp; exact fun e => hb e.symm, by simp⟩
      · rename_i h0 t heq
        rcases List.mem_cons.1 h with rfl | h
        · have := splitL_mem l h0 (by rw [heq]; simp)
          exact ⟨by simp [this.1]; exact fun e => hb e.symm, by simp; omega⟩
        · have := splitL_mem l x (by rw [heq]; simp [h])
          exact ⟨this.1, by simp; omega⟩
theorem splitL_length : ∀ l : List UInt8, (splitL l).length ≤ l.length + 1
  | [] => by simp [splitL]
  | b :: l => by
    have ih := splitL_length l
    unfold splitL
    split
    · simp; omega
    · split
      · simp
      · rename_i h t heq
        rw [heq] at ih
        simp at ih ⊢
        omega
/-- The elements of a list: the pieces, trimmed, the empty ones left out. -/
def elemsOf (ps : List (List UInt8)) : List (List UInt8) := (ps.map trm).filter fun x => !x.isEmpty
def elemsL (l : List UInt8) : List (List UInt8) := elemsOf (splitL l)
def baL (l : List (List UInt8)) : List ByteArray := l.map fun x => ⟨x.toArray⟩
theorem elemsOf_cons (p : List UInt8) (ps : List (List UInt8)) : elemsOf (p :: ps) = if trm p = [] then elemsOf ps else trm p :: elemsOf ps := by
  unfold elemsOf
  rw [List.map_cons, List.filter_cons]
  by_cases h : trm p = []
  · simp [h]
  · simp [h]
theorem elemsL_len (l : List UInt8) : (elemsL l).length ≤ l.length + 1 := by
  unfold elemsL elemsOf
  have h1 := List.length_filter_le (fun x : List UInt8 => !x.isEmpty) ((splitL l).map trm)
  have h2 := splitL_length l
  simp at h1
  omega
theorem elemsL_mem (l x : List UInt8) (h : x ∈ elemsL l) : x ≠ [] ∧ trm x = x ∧ 44 ∉ x ∧ x.length ≤ l.length := by
  unfold elemsL elemsOf at h
  obtain ⟨h1, h2⟩ := List.mem_filter.1 h
  obtain ⟨p, hp, rfl⟩ := List.mem_map.1 h1
  have h3 := splitL_mem l p hp
  refine ⟨by simpa using h2, trm_idem p, fun h4 => h3.1 ((trm_sub p).mem h4), Nat.le_trans (trm_len p) h3.2⟩
theorem elemsL_one (x : List UInt8) (h1 : x ≠ []) (h2 : trm x = x) (h3 : 44 ∉ x) : elemsL x = [x] := by
  unfold elemsL
  rw [splitL_free x h3, elemsOf_cons, h2, if_neg h1]
  rfl
theorem index_comma : ∀ l : List UInt8, (Lib.index l [44] = -1 ∧ 44 ∉ l) ∨ ∃ p q, l = p ++ 44 :: q ∧ 44 ∉ p ∧ Lib.index l [44] = p.length
  | [] => .inl ⟨rfl, by simp⟩
  | b :: l => by
    unfold Lib.index
    by_cases hb : b = 44
    · subst hb
      exact .inr ⟨[], l, rfl, by simp, by simp [List.isPrefixOf]⟩
    · have hp : ([44] : List UInt8).isPrefixOf (b :: l) = false := by simp [List.isPrefixOf]; exact fun e => hb e.symm
      rcases index_comma l with ⟨h1, h2⟩ | ⟨p, q, h1, h2, h3⟩
      · exact .inl ⟨by simp [hp, h1], by simp [h2]; exact fun e => hb e.symm⟩
      · refine .inr ⟨b :: p, q, by rw [h1]; rfl, by simp [h2]; exact fun e => hb e.symm, ?_⟩
        have : ¬ Lib.index l [44] = -1 := by omega
        simp [hp, h3]
theorem splitB_comma : ∀ (n : Nat) (s : ByteArray), s.size ≤ n → (Lib.splitB ⟨#[44]⟩ 0 (Lib.countB s ⟨#[44]⟩) s).map (fun x => x.data.toList) = splitL s.data.toList
  | n, s, hn => by
    rcases index_comma s.data.toList with ⟨h1, h2⟩ | ⟨p, q, h1, h2, h3⟩
    · rw [Lib.splitB_miss _ _ _ _ h1, splitL_free _ h2]
      rfl
    · have hc := Lib.countB_hit s ⟨#[44]⟩ p.length (by decide) h3
      have hx : (s.extract (p.length + (⟨#[44]⟩ : ByteArray).size) s.size).data.toList = q := by
        rw [Lib.extract_data, h1, ← ba_len, h1]
        show ((p ++ 44 :: q).drop (p.length + 1)).take ((p ++ 44 :: q).length - (p.length + 1)) = q
        have e : (p ++ 44 :: q).drop (p.length + 1) = q := by rw [← List.drop_drop]; simp
        rw [e]
        exact List.take_of_length_le (by simp; omega)
      have hp : (s.extract 0 (p.length + 0)).data.toList = p := by rw [Lib.extract_data, h1]; simp
      have hsz : s.size = p.length + 1 + q.length := by rw [← ba_len, h1]; simp; omega
      cases n with
      | zero => omega
      | succ n =>
        have ih := splitB_comma n (s.extract (p.length + (⟨#[44]⟩ : ByteArray).size) s.size) (by rw [← ba_len, hx]; omega)
        rw [hc, Nat.add_comm 1, Lib.splitB_hit _ _ _ _ _ h3, List.map_cons, ih, hx, hp, h1, splitL_comma p q h2]
theorem list_l0 (ps : List ByteArray) (hps : ps.length ≤ 8796093022000) (hsz : ∀ x ∈ ps, x.size ≤ 9223372036854775807) : ∀ (l : List ByteArray) (acc : List (List UInt8)) (i : Int), 0 ≤ i → ps.drop i.toNat = l → (acc.length : Int) ≤ i → i ≤ ps.length → Ev (fun k => chars_List.l0 k (baL acc) ps (ps.length : Int) i) (baL (acc ++ elemsOf (l.map fun x => x.data.toList)))
  | [], acc, i, h0, h, ha, hi => by
    have e : i = ps.length := by
      have : ps.length ≤ i.toNat := by simpa using h
      omega
    refine Ev.step (fun k => by rw [chars_List.l0]) ?_
    simp only [if_neg (show ¬ i < (ps.length : Int) by omega)]
    simpa [elemsOf] using Ev.now (baL acc)
  | x :: l, acc, i, h0, h, ha, hi => by
    have hl : i.toNat < ps.length := by
      rcases Nat.lt_or_ge i.toNat ps.length with h' | h'
      · exact h'
      · rw [List.drop_of_length_le h'] at h; cases h
    have hd := List.drop_eq_getElem_cons hl
    rw [hd] at h
    obtain ⟨h2, h3⟩ := List.cons.inj h
    have hx : rdOf ByteArray.empty ps i = x := by unfold rdOf; rw [List.getD_eq_getElem?_getD, List.getElem?_eq_getElem hl]; exact h2
    have hxs := hsz x (by rw [← h2]; exact List.getElem_mem hl)
    have hd' : ps.drop (i + 1).toNat = l := by rw [show (i + 1).toNat = i.toNat + 1 by omega]; exact h3
    refine Ev.step (fun k => by rw [chars_List.l0]) ?_
    simp only [if_pos (show i < (ps.length : Int) by omega), if_pos h0, hx, trim_f x hxs, Option.bind_some, ba_toList]
    rw [wrap_in (n := i + 1) (by omega), List.map_cons, elemsOf_cons]
    by_cases ht : trm x.data.toList = []
    · simp only [if_pos ht]
      exact list_l0 ps hps hsz l acc (i + 1) (by omega) hd' (by omega) (by omega)
    · have hal : (baL acc).length < 8796093022208 := by simp [baL]; omega
      simp only [if_neg ht, if_pos hal]
      have ih := list_l0 ps hps hsz l (acc ++ [trm x.data.toList]) (i + 1) (by omega) hd' (by simp; omega) (by omega)
      have e : baL (acc ++ [trm x.data.toList]) = baL acc ++ [⟨(trm x.data.toList).toArray⟩] := by simp [baL]
      rw [e] at ih
      simpa using ih
theorem list_ev (s : ByteArray) (hs : s.size ≤ 4294967000) : Ev (fun k => chars_List.f k s) (baL (elemsL s.data.toList)) := by
  unfold chars_List.f strings_Split.f
  rw [if_pos ⟨by omega, by decide⟩]
  simp only [Option.bind_some]
  have hm := splitB_comma s.size s (Nat.le_refl _)
  have hlen : (Lib.splitB ⟨#[44]⟩ 0 (Lib.countB s ⟨#[44]⟩) s).length ≤ s.size + 1 := by
    have h1 := congrArg List.length hm
    rw [List.length_map] at h1
    have h2 := splitL_length s.data.toList
    rw [ba_len] at h2
    omega
  have := list_l0 (Lib.splitB ⟨#[44]⟩ 0 (Lib.countB s ⟨#[44]⟩) s) (by omega) (fun x hx => by
    have h1 : x.data.toList ∈ splitL s.data.toList := by rw [← hm]; exact List.mem_map_of_mem (f := fun x : ByteArray => x.data.toList) hx
    have h2 := (splitL_mem _ _ h1).2
    rw [ba_len, ba_len] at h2
    omega) _ [] 0 (by omega) rfl (by simp) (by omega)
  rw [Int.toNat_zero, List.drop_zero, hm] at this
  exact this
theorem rlist_l0 (s : ByteArray) (hs : s.size ≤ 4294967000) : ∀ (l pre : List UInt8) (acc : List (List UInt8)) (fr i : Int), 0 ≤ fr → fr ≤ i → i ≤ s.size → s.data.toList.drop i.toNat = l → (s.extract fr.toNat i.toNat).data.toList = pre → 44 ∉ pre → (acc.length : Int) ≤ fr →
    Ev (fun k => turnstileref01_List.l0 k s (baL acc) fr i) (baL (acc ++ elemsL (pre ++ l))) := by
  have emit : ∀ (acc : List (List UInt8)) (fr i : Int) (pre : List UInt8) (R : List ByteArray), 0 ≤ fr → fr ≤ i → i ≤ s.size → (s.extract fr.toNat i.toNat).data.toList = pre → (acc.length : Int) ≤ fr →
      Ev (fun k => turnstileref01_List.l0 k s (if trm pre = [] then baL acc else baL (acc ++ [trm pre])) (i + 1) (i + 1)) R → Ev (fun k => turnstileref01_List.j1 k s (baL acc) fr i true) R := by
    intro acc fr i pre R h0 h1 h2 hp ha hR
    have hsz : (s.extract fr.toNat i.toNat).size ≤ 9223372036854775807 := by
      have : (s.extract fr.toNat i.toNat).size ≤ s.size := by rw [← ba_len, ← ba_len, Lib.extract_data]; simp; omega
      omega
    refine Ev.step (fun k => by rw [turnstileref01_List.j1]) ?_
    simp only [if_true, if_pos h0, if_pos h1, if_pos h2]
    refine Ev.bind (rtrim_ev _ hsz) ?_
    rw [hp, wrap_in (n := i + 1) (by omega)]
    simp only [ba_toList]
    by_cases ht : trm pre = []
    · simp only [if_pos ht] at hR ⊢
      exact hR
    · have hal : (baL acc).length < 8796093022208 := by simp [baL]; omega
      simp only [if_neg ht, if_pos hal] at hR ⊢
      have e : baL (acc ++ [trm pre]) = baL acc ++ [⟨(trm pre).toArray⟩] := by simp [baL]
      rwa [e] at hR
  intro l
  induction l with
  | nil =>
    intro pre acc fr i h0 h1 h2 h hp hc ha
    have e := scan_nil (by omega) h2 h
    refine Ev.step (fun k => by rw [turnstileref01_List.l0]) ?_
    simp only [if_pos h2, if_pos e]
    refine emit acc fr i pre _ h0 h1 h2 hp ha ?_
    refine Ev.step (fun k => by rw [turnstileref01_List.l0]) ?_
    simp only [if_neg (show ¬ i + 1 ≤ (s.size : Int) by omega)]
    unfold elemsL
    rw [List.append_nil, splitL_free pre hc, elemsOf_cons]
    by_cases ht : trm pre = []
    · simp only [if_pos ht, elemsOf, List.map_nil, List.filter_nil, List.append_nil]
      exact Ev.now _
    · simp only [if_neg ht, elemsOf, List.map_nil, List.filter_nil]
      exact Ev.now _
  | cons b l ih =>
    intro pre acc fr i h0 h1 h2 h hp hc ha
    obtain ⟨h3, h4, h5⟩ := scan_cons (by omega) h
    refine Ev.step (fun k => by rw [turnstileref01_List.l0]) ?_
    simp only [if_pos h2, if_neg (show ¬ i = (s.size : Int) by omega), if_pos (show (0 : Int) ≤ i by omega), if_pos h3, h4]
    by_cases hb : b = 44
    · subst hb
      rw [show (((44 : UInt8).toNat : Int) == 44) = true from rfl]
      refine emit acc fr i pre _ h0 h1 h2 hp ha ?_
      have hn : (s.extract (i + 1).toNat (i + 1).toNat).data.toList = [] := by rw [Lib.extract_data]; simp
      have hL : elemsL (pre ++ 44 :: l) = if trm pre = [] then elemsL l else trm pre :: elemsL l := by unfold elemsL; rw [splitL_comma pre l hc, elemsOf_cons]
      by_cases ht : trm pre = []
      · have := ih [] acc (i + 1) (i + 1) (by omega) (by omega) (by omega) h5 hn (by simp) (by omega)
        simp only [if_pos ht] at hL ⊢
        rw [hL]
        simpa using this
      · have := ih [] (acc ++ [trm pre]) (i + 1) (i + 1) (by omega) (by omega) (by omega) h5 hn (by simp) (by simp; omega)
        simp only [if_neg ht] at hL ⊢
        rw [hL]
        simpa using this
    · have hb' : ((b.toNat : Int) == 44) = false := by
        rw [beq_eq_false_iff_ne]
        intro e
        apply hb
        have : b.toNat = 44 := by omega
        exact UInt8.toNat_inj.1 (by simpa using this)
      rw [hb']
      refine Ev.step (fun k => by rw [turnstileref01_List.j1]) ?_
      simp only [Bool.false_eq_true, if_false]
      rw [wrap_in (n := i + 1) (by omega)]
      have hx : (s.extract fr.toNat (i + 1).toNat).data.toList = pre ++ [b] := by
        rw [Lib.extract_data] at hp ⊢
        have hdl : (s.data.toList.drop fr.toNat).drop (i.toNat - fr.toNat) = b :: l := by rw [List.drop_drop, show fr.toNat + (i.toNat - fr.toNat) = i.toNat by omega]; exact h
        rw [show (i + 1).toNat - fr.toNat = (i.toNat - fr.toNat) + 1 by omega, ← hp, List.take_add_one]
        congr 1
        have := congrArg (fun z => z[0]?) hdl
        simp only [List.getElem?_drop, Nat.add_zero] at this
        rw [List.getElem?_drop, this]
        rfl
      have := ih (pre ++ [b]) acc fr (i + 1) h0 (by omega) (by omega) h5 hx (by simp [hc]; exact fun e => hb e.symm) ha
      simpa using this
theorem rlist_ev (s : ByteArray) (hs : s.size ≤ 4294967000) : Ev (fun k => turnstileref01_List.f k s) (baL (elemsL s.data.toList)) := by
  unfold turnstileref01_List.f
  have := rlist_l0 s hs _ [] [] 0 0 (by omega) (by omega) (by omega) rfl (by rw [Lib.extract_data]; simp) (by simp) (by simp)
  have e : baL [] = [] := rfl
  rw [e] at this
  simpa using this

end Go.Proofs.YtmmlacbcolfngaaDoor.Q
