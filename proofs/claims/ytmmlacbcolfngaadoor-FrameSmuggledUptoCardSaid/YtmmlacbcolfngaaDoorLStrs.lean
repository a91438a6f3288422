/- Plain Lean on what the printed functions answer (Strs); for all arguments that the lemmas name. -/
import Derived.Test.YtmmlacbcolfngaaDoorQ0
import Derived.Test.YtmmlacbcolfngaaDoorLBase
import Derived.Test.YtmmlacbcolfngaaDoorQCharsstub
import Derived.Test.YtmmlacbcolfngaaDoorQChars3
import Derived.Test.YtmmlacbcolfngaaDoorQTurnstileref015
import Derived.Test.YtmmlacbcolfngaaDoorQChars
import Derived.Test.YtmmlacbcolfngaaDoorQTurnstileref013
namespace Go.Proofs.YtmmlacbcolfngaaDoor.Q
open Go.RowKit Go.Proofs.YtmmlacbcolfngaaDoorW.PrintWords Go.Proofs.YtmmlacbcolfngaaDoorW.PrintLast Go.Proofs.YtmmlacbcolfngaaDoorW.PrintMore
set_option linter.unusedVariables false
set_option linter.unusedSimpArgs false
def trR (p : UInt8 → Bool) (l : List UInt8) : List UInt8 := (l.reverse.dropWhile p).reverse
def trL (p : UInt8 → Bool) (l : List UInt8) : List UInt8 := l.dropWhile p
def blk (b : UInt8) : Bool := [32, 9].contains b
def trm (l : List UInt8) : List UInt8 := trL blk (trR blk l)
theorem trR_snoc (p : UInt8 → Bool) (l : List UInt8) (b : UInt8) : trR p (l ++ [b]) = if p b = true then trR p l else l ++ [b] := by
  unfold trR
  rw [List.reverse_append]
  simp only [List.reverse_cons, List.reverse_nil, List.nil_append, List.singleton_append, List.dropWhile_cons]
  split <;> simp
theorem trR_cons (p : UInt8 → Bool) (b : UInt8) (l : List UInt8) : trR p (b :: l) = if p b = true ∧ trR p l = [] then [] else b :: trR p l := by
  unfold trR
  rw [List.reverse_cons, List.dropWhile_append]
  by_cases h : (l.reverse.dropWhile p).isEmpty = true
  · have h' : l.reverse.dropWhile p = [] := by simpa using h
    rw [if_pos h]
    cases hb : p b <;> simp [h', hb, List.dropWhile]
  · rw [if_neg h]
    have h' : ¬ l.reverse.dropWhile p = [] := by simpa using h
    simp [h']
theorem tr_comm (p : UInt8 → Bool) : ∀ l : List UInt8, trL p (trR p l) = trR p (trL p l)
  | [] => rfl
  | b :: l => by
    have ih := tr_comm p l
    rw [trR_cons]
    cases hb : p b
    · simp only [Bool.false_eq_true, false_and, if_false]
      have h1 : ∀ m : List UInt8, trL p (b :: m) = b :: m := fun m => by simp [trL, hb]
      rw [h1, h1, trR_cons]
      simp [hb]
    · have h1 : ∀ m : List UInt8, trL p (b :: m) = trL p m := fun m => by simp [trL, hb]
      rw [h1]
      by_cases h : trR p l = []
      · rw [if_pos ⟨rfl, h⟩, ← ih, h]
      · rw [if_neg (fun h2 => h h2.2), h1, ih]
theorem trL_idem (p : UInt8 → Bool) : ∀ l : List UInt8, trL p (trL p l) = trL p l
  | [] => rfl
  | b :: l => by
    cases hb : p b
    · simp [trL, hb]
    · have h1 : trL p (b :: l) = trL p l := by simp [trL, hb]
      rw [h1, trL_idem p l]
theorem trR_idem (p : UInt8 → Bool) (l : List UInt8) : trR p (trR p l) = trR p l := by
  unfold trR
  rw [List.reverse_reverse]
  exact congrArg List.reverse (trL_idem p l.reverse)
theorem trm_idem (l : List UInt8) : trm (trm l) = trm l := by
  unfold trm
  rw [← tr_comm blk (trR blk l), trR_idem, trL_idem]
theorem trL_sub (p : UInt8 → Bool) (l : List UInt8) : (trL p l).Sublist l := List.dropWhile_sublist _
theorem trR_sub (p : UInt8 → Bool) (l : List UInt8) : (trR p l).Sublist l := by
  have := (List.dropWhile_sublist (l := l.reverse) p).reverse
  simpa [trR] using this
theorem trm_sub (l : List UInt8) : (trm l).Sublist l := (trL_sub _ _).trans (trR_sub _ _)
theorem trm_len (l : List UInt8) : (trm l).length ≤ l.length := (trm_sub l).length_le
def lowL (l : List UInt8) : List UInt8 := l.map lowc
theorem lower_f (s : ByteArray) (hs : s.size ≤ 140737488355328) : chars_Lower.f s = some ⟨(lowL s.data.toList).toArray⟩ := by
  unfold chars_Lower.f
  rw [if_pos hs]
  rfl
theorem lowc_idem (c : UInt8) : lowc (lowc c) = lowc c := by
  have : ∀ n : Fin 256, lowc (lowc (UInt8.ofNat n.val)) = lowc (UInt8.ofNat n.val) := by decide +kernel
  have h := this ⟨c.toNat, c.toNat_lt⟩
  simpa using h
theorem lowL_idem (l : List UInt8) : lowL (lowL l) = lowL l := by
  unfold lowL
  rw [List.map_map]
  congr 1
  funext c
  exact lowc_idem c
theorem lowL_len (l : List UInt8) : (lowL l).length = l.length := by simp [lowL]
theorem same_f (a b : ByteArray) (ha : a.size ≤ 140737488355328) (hb : b.size ≤ 140737488355328) : chars_Same.f a b = some (decide (lowL a.data.toList = lowL b.data.toList)) := by
  unfold chars_Same.f
  by_cases h : (a.size : Int) = (b.size : Int)
  · rw [if_pos h, lower_f a ha, lower_f b hb]
    simp only [Option.bind_some, ba_toList, Option.some.injEq]
    rw [Bool.eq_iff_iff]
    simp
  · rw [if_neg h]
    simp only [Option.some.injEq]
    symm
    rw [decide_eq_false_iff_not]
    intro h2
    have := congrArg List.length h2
    rw [lowL_len, lowL_len, ba_len, ba_len] at this
    omega
theorem nums_str (l : List UInt8) : strOfNums (l.map fun b => (b.toNat : Int)) = ⟨l.toArray⟩ := by
  have e : (fun n : Int => UInt8.ofNat n.toNat) ∘ (fun b : UInt8 => (b.toNat : Int)) = id := by funext b; simp
  unfold strOfNums
  rw [List.map_map, e, List.map_id]
theorem lowc_int (b : UInt8) : ((lowc b).toNat : Int) = if 65 ≤ (b.toNat : Int) ∧ (b.toNat : Int) ≤ 90 then ((b.toNat : Int) - 65 + 97) % 256 else (b.toNat : Int) := by
  have : ∀ n : Fin 256, ((lowc (UInt8.ofNat n.val)).toNat : Int) = if 65 ≤ ((UInt8.ofNat n.val).toNat : Int) ∧ ((UInt8.ofNat n.val).toNat : Int) ≤ 90 then (((UInt8.ofNat n.val).toNat : Int) - 65 + 97) % 256 else ((UInt8.ofNat n.val).toNat : Int) := by decide +kernel
  have h := this ⟨b.toNat, b.toNat_lt⟩
  simpa using h
theorem rlower_l0 (s : ByteArray) (hs : s.size ≤ 140737488355327) : ∀ (l pre : List UInt8) (i : Int), 0 ≤ i → i ≤ s.size → s.data.toList.drop i.toNat = l → (pre.length : Int) = i → Ev (fun k => turnstileref01_Lower.l0 k s ((lowL pre).map fun b => (b.toNat : Int)) i) (⟨(lowL pre ++ lowL l).toArray⟩ : ByteArray)
  | [], pre, i, h0, h1, h, hp => by
    have e := scan_nil h0 h1 h
    refine Ev.step (fun k => by rw [turnstileref01_Lower.l0]) ?_
    simp only [if_neg (show ¬ i < (s.size : Int) by omega), nums_str]
    simpa [lowL] using Ev.now (⟨(lowL pre).toArray⟩ : ByteArray)
  | b :: l, pre, i, h0, h1, h, hp => by
    obtain ⟨h2, h3, h4⟩ := scan_cons h0 h
    have hb := byte_range b
    have hlen : ((lowL pre).map fun b => (b.toNat : Int)).length < 140737488355328 := by simp [lowL]; omega
    have ih := rlower_l0 s hs l (pre ++ [b]) (i + 1) (by omega) (by omega) h4 (by simp; omega)
    have e1 : lowL (pre ++ [b]) ++ lowL l = lowL pre ++ lowL (b :: l) := by simp [lowL]
    have e2 : (lowL (pre ++ [b])).map (fun b => (b.toNat : Int)) = (lowL pre).map (fun b => (b.toNat : Int)) ++ [((lowc b).toNat : Int)] := by simp [lowL]
    rw [e1, e2, lowc_int] at ih
    refine Ev.step (fun k => by rw [turnstileref01_Lower.l0]) ?_
    simp only [if_pos h2, if_pos h0, h3, if_pos hlen]
    rw [wrap_in (n := i + 1) (by omega)]
    by_cases c1 : (b.toNat : Int) ≥ 65
    · by_cases c2 : (b.toNat : Int) ≤ 90
      · rw [if_pos ⟨c1, c2⟩] at ih
        simpa only [if_pos c1, if_pos c2] using ih
      · rw [if_neg (fun h => c2 h.2)] at ih
        simpa only [if_pos c1, if_neg c2] using ih
    · rw [if_neg (fun h => c1 h.1)] at ih
      simpa only [if_neg c1] using ih
theorem rlower_ev (s : ByteArray) (hs : s.size ≤ 140737488355327) : Ev (fun k => turnstileref01_Lower.f k s) (⟨(lowL s.data.toList).toArray⟩ : ByteArray) := by
  unfold turnstileref01_Lower.f
  exact rlower_l0 s hs _ [] 0 (by omega) (by omega) rfl rfl
theorem rsame_ev (a b : ByteArray) (ha : a.size ≤ 140737488355327) (hb : b.size ≤ 140737488355327) : Ev (fun k => turnstileref01_Same.f k a b) (decide (lowL a.data.toList = lowL b.data.toList)) := by
  unfold turnstileref01_Same.f
  refine Ev.bind (rlower_ev a ha) (Ev.bind (rlower_ev b hb) ?_)
  have : decide (lowL a.data.toList = lowL b.data.toList) = ((⟨(lowL a.data.toList).toArray⟩ : ByteArray).toList == (⟨(lowL b.data.toList).toArray⟩ : ByteArray).toList) := by
    rw [ba_toList, ba_toList, Bool.eq_iff_iff]
    simp
  rw [this]
  exact Ev.now _
theorem trim_f (s : ByteArray) (hs : s.size ≤ 9223372036854775807) : chars_Trim.f s = some ⟨(trm s.data.toList).toArray⟩ := by
  unfold chars_Trim.f strings_Trim.f
  rw [if_pos ⟨hs, by decide, by decide⟩]
  rfl
theorem rblank_f (b : UInt8) : turnstileref01_Blank.f (b.toNat : Int) = some (blk b) := by
  have : ∀ n : Fin 256, turnstileref01_Blank.f ((UInt8.ofNat n.val).toNat : Int) = some (blk (UInt8.ofNat n.val)) := by decide +kernel
  have h := this ⟨b.toNat, b.toNat_lt⟩
  simpa using h
theorem rtrim_l1 : ∀ (n : Nat) (s : ByteArray), s.size = n → n ≤ 9223372036854775807 → Ev (fun k => turnstileref01_Trim.l1 k s) (⟨(trR blk s.data.toList).toArray⟩ : ByteArray)
  | 0, s, hn, _ => by
    have e : s.data.toList = [] := List.eq_nil_of_length_eq_zero (by rw [ba_len]; exact hn)
    refine Ev.step (fun k => by rw [turnstileref01_Trim.l1]) ?_
    simp only [if_neg (show ¬ (s.size : Int) > 0 by omega)]
    have : (⟨(trR blk s.data.toList).toArray⟩ : ByteArray) = s := ba_ext (by rw [e]; rfl)
    rw [this]
    exact Ev.now _
  | n + 1, s, hn, hm => by
    have hne : s.data.toList ≠ [] := fun h => by rw [← ba_len, h] at hn; simp at hn
    obtain ⟨q, b, hq⟩ : ∃ q b, s.data.toList = q ++ [b] := ⟨_, _, (List.dropLast_concat_getLast hne).symm⟩
    have hql : q.length = n := by have := ba_len s; rw [hq] at this; simp at this; omega
    have hbt : bt s (n : Int) = (b.toNat : Int) := by
      have hd : s.data.toList.drop (n : Int).toNat = b :: [] := by rw [hq]; simp [← hql]
      exact (scan_cons (by omega) hd).2.1
    have hw : wrap64 ((s.size : Int) - 1) = (n : Int) := by rw [wrap_in (by omega)]; omega
    refine Ev.step (fun k => by rw [turnstileref01_Trim.l1]) ?_
    rw [hw]
    simp only [if_pos (show (s.size : Int) > 0 by omega), if_pos (show (0 : Int) ≤ (n : Int) by omega), if_pos (show (n : Int) < (s.size : Int) by omega), if_pos (show (n : Int) ≤ (s.size : Int) by omega), hbt, rblank_f, Option.bind_some]
    rw [hq, trR_snoc]
    have hx : (s.extract 0 (n : Int).toNat).data.toList = q := by rw [Lib.extract_data, hq]; simp [← hql]
    cases hb : blk b
    · have : (⟨(q ++ [b]).toArray⟩ : ByteArray) = s := ba_ext (by rw [hq])
      simp only [Bool.false_eq_true, if_false]
      rw [this]
      exact Ev.now _
    · simp only [if_true]
      have ih := rtrim_l1 n (s.extract 0 (n : Int).toNat) (by rw [← ba_len, hx, hql]) (by omega)
      rw [hx] at ih
      exact ih
theorem rtrim_l0 : ∀ (n : Nat) (s : ByteArray), s.size = n → n ≤ 9223372036854775807 → Ev (fun k => turnstileref01_Trim.l0 k s) (⟨(trR blk (trL blk s.data.toList)).toArray⟩ : ByteArray)
  | 0, s, hn, hm => by
    have e : s.data.toList = [] := List.eq_nil_of_length_eq_zero (by rw [ba_len]; exact hn)
    refine Ev.step (fun k => by rw [turnstileref01_Trim.l0]) ?_
    simp only [if_neg (show ¬ (s.size : Int) > 0 by omega)]
    refine Ev.step (fun k => by rw [turnstileref01_Trim.j1]) ?_
    have h1 : trL blk s.data.toList = s.data.toList := by rw [e]; rfl
    rw [h1]
    exact rtrim_l1 0 s hn (by omega)
  | n + 1, s, hn, hm => by
    obtain ⟨b, q, hq⟩ : ∃ b q, s.data.toList = b :: q := by
      cases h : s.data.toList with
      | nil => rw [← ba_len, h] at hn; simp at hn
      | cons b q => exact ⟨b, q, rfl⟩
    have hbt : bt s 0 = (b.toNat : Int) := (scan_cons (by omega) (by simpa using hq)).2.1
    refine Ev.step (fun k => by rw [turnstileref01_Trim.l0]) ?_
    simp only [if_pos (show (s.size : Int) > 0 by omega), if_pos (show (0 : Int) < (s.size : Int) by omega), if_pos (show (1 : Int) ≤ (s.size : Int) by omega), hbt, rblank_f, Option.bind_some]
    cases hb : blk b
    · simp only [Bool.false_eq_true, if_false]
      refine Ev.step (fun k => by rw [turnstileref01_Trim.j1]) ?_
      have h1 : trL blk s.data.toList = s.data.toList := by rw [hq]; simp [trL, hb]
      rw [h1]
      exact rtrim_l1 (n + 1) s hn hm
    · simp only [if_true]
      have hx : (s.extract 1 s.size).data.toList = q := by rw [Lib.extract_data, hq, ← ba_len, hq]; simp
      have hql : q.length = n := by have := ba_len s; rw [hq] at this; simp at this; omega
      have ih := rtrim_l0 n (s.extract 1 s.size) (by rw [← ba_len, hx, hql]) (by omega)
      rw [hx] at ih
      have h1 : trL blk s.data.toList = trL blk q := by rw [hq]; simp [trL, hb]
      rw [h1]
      exact ih
theorem rtrim_ev (s : ByteArray) (hs : s.size ≤ 9223372036854775807) : Ev (fun k => turnstileref01_Trim.f k s) (⟨(trm s.data.toList).toArray⟩ : ByteArray) := by
  unfold turnstileref01_Trim.f trm
  rw [tr_comm]
  exact rtrim_l0 _ s rfl hs

end Go.Proofs.YtmmlacbcolfngaaDoor.Q
