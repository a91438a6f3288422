/- Plain Lean on what the printed functions answer (Wr); for all arguments that the lemmas name. -/
import Derived.Test.YtmmlacbcolfngaaDoorQ0
import Derived.Test.YtmmlacbcolfngaaDoorLFeed3
import Derived.Test.YtmmlacbcolfngaaDoorLChars
import Derived.Test.YtmmlacbcolfngaaDoorLStrs
import Derived.Test.YtmmlacbcolfngaaDoorQTurnstileref09
import Derived.Test.YtmmlacbcolfngaaDoorQTurnstileref092
import Derived.Test.YtmmlacbcolfngaaDoorQTurnstileref01
import Derived.Test.YtmmlacbcolfngaaDoorQTurnstileref012
import Derived.Test.YtmmlacbcolfngaaDoorQTurnstileref09stub
namespace Go.Proofs.YtmmlacbcolfngaaDoor.Q
open Go.RowKit Go.Proofs.YtmmlacbcolfngaaDoorW.PrintWords Go.Proofs.YtmmlacbcolfngaaDoorW.PrintLast Go.Proofs.YtmmlacbcolfngaaDoorW.PrintMore
set_option linter.unusedVariables false
set_option linter.unusedSimpArgs false
def kindK (kind : Int) (c : Int) : Bool := if kind = 1 then isVis c else if kind = 2 then isVal c else isTok c
theorem rvis_f (c : Int) : turnstileref01_Visible.f c = some (isVis c) := by
  unfold turnstileref01_Visible.f isVis
  by_cases h : c ≥ 33
  · rw [if_pos h, if_pos (by omega)]
    congr 1
    rw [decide_eq_decide]
    omega
  · rw [if_neg h, if_neg (by omega)]
theorem rval_f (c : Int) (h1 : c ≤ 255) : turnstileref01_Value.f c = some (isVal c) := by
  unfold turnstileref01_Value.f isVal
  by_cases h9 : c = 9
  · rw [if_pos h9, if_pos h9]
  · rw [if_neg h9, if_neg h9]
    by_cases h : c ≥ 32
    · rw [if_pos h, if_pos h]
      by_cases h2 : c ≤ 126
      · rw [if_pos h2]
        have : c ≠ 127 := by omega
        simp [this]
      · rw [if_neg h2]
        by_cases h3 : c = 127
        · subst h3; rfl
        · rw [decide_eq_true (by omega)]
          simp [h3]
    · rw [if_neg h, if_neg h, decide_eq_false (by omega)]
def allB (kind : Int) (l : List UInt8) : Bool := l.all fun b => kindK kind (b.toNat : Int)
theorem all_l0 (s : ByteArray) (kind : Int) (hs : s.size ≤ 9223372036854775800) : ∀ (l : List UInt8) (i : Int), 0 ≤ i → i ≤ s.size → s.data.toList.drop i.toNat = l → Ev (fun k => turnstileref09_all.l0 k s kind i) (allB kind l)
  | [], i, h0, h1, h => by
    have e := scan_nil h0 h1 h
    refine Ev.step (fun k => by rw [turnstileref09_all.l0]) ?_
    simp only [if_neg (show ¬ i < (s.size : Int) by omega)]
    exact Ev.now _
  | b :: l, i, h0, h1, h => by
    obtain ⟨h2, h3, h4⟩ := scan_cons h0 h
    have hb := byte_range b
    have ih := all_l0 s kind hs l (i + 1) (by omega) (by omega) h4
    refine Ev.step (fun k => by rw [turnstileref09_all.l0]) ?_
    simp only [if_pos h2, if_pos h0, h3, rvis_f, rval_f _ hb.2, Option.bind_some]
    rw [wrap_in (n := i + 1) (by omega)]
    refine Ev.bind (rtok_ev _ hb.1 hb.2) ?_
    have e : allB kind (b :: l) = (kindK kind (b.toNat : Int) && allB kind l) := rfl
    rw [e]
    unfold kindK
    by_cases k1 : kind = 1
    · simp only [if_pos k1]
      cases isVis (b.toNat : Int)
      · simpa using Ev.now false
      · simpa using ih
    · by_cases k2 : kind = 2
      · simp only [if_neg k1, if_pos k2]
        cases isVal (b.toNat : Int)
        · simpa using Ev.now false
        · simpa using ih
      · simp only [if_neg k1, if_neg k2]
        cases isTok (b.toNat : Int)
        · simpa using Ev.now false
        · simpa using ih
theorem all_ev (s : ByteArray) (kind : Int) (hs : s.size ≤ 9223372036854775800) : Ev (fun k => turnstileref09_all.f k s kind) (allB kind s.data.toList) := all_l0 s kind hs _ 0 (by omega) (by omega) rfl
theorem allB_mem {kind : Int} {s : ByteArray} (h : allB kind s.data.toList = true) : ∀ c ∈ bytesOf s, kindK kind c = true := by
  intro c hc
  obtain ⟨b, hb, rfl⟩ := List.mem_map.1 hc
  exact List.all_eq_true.1 h b hb
theorem tokL_mem {s : ByteArray} (h : tokL s.data.toList = true) : ∀ c ∈ bytesOf s, isTok c = true := by
  intro c hc
  obtain ⟨b, hb, rfl⟩ := List.mem_map.1 hc
  exact List.all_eq_true.1 h b hb
theorem bytes_ne {s : ByteArray} (h : s.size ≠ 0) : bytesOf s ≠ [] := fun e => h (by rw [← bytesOf_length, e]; rfl)
def fineF (f : S67) : Bool := tokL f.f0.data.toList && decide (f.f0.size ≠ 0) && allB 2 f.f1.data.toList && decide (trm f.f1.data.toList = f.f1.data.toList)
def fineB (l : List S67) : Bool := decide (l.length ≤ 64) && l.all fineF
theorem fineF_ok {f : S67} (h : fineF f = true) : FineF f := by
  unfold fineF at h
  simp only [Bool.and_eq_true, decide_eq_true_eq] at h
  obtain ⟨⟨⟨h1, h2⟩, h3⟩, h4⟩ := h
  exact ⟨tokL_mem h1, bytes_ne h2, fun c hc => by simpa [kindK] using allB_mem h3 c hc, h4⟩
theorem fine_l0 (xs : List S67) (hxs : xs.length ≤ 4398046511104) (hok : ∀ f ∈ xs, f.f0.size ≤ 1048576 ∧ f.f1.size ≤ 1048576) : ∀ (l : List S67) (i : Int), 0 ≤ i → xs.drop i.toNat = l → i ≤ xs.length → Ev (fun k => turnstileref09_fine.l0 k xs i) (l.all fineF)
  | [], i, h0, h, hi => by
    have e := lscan_nil h0 hi h
    refine Ev.step (fun k => by rw [turnstileref09_fine.l0]) ?_
    simp only [if_neg (show ¬ i < (xs.length : Int) by omega)]
    exact Ev.now _
  | f :: l, i, h0, h, hi => by
    obtain ⟨h2, h3, h4⟩ := lscan_cons h0 h
    have hf : rd_T67 xs i = f := h3 _
    have hm := hok f (List.mem_of_mem_drop (by rw [h]; exact List.mem_cons_self))
    have ih := fine_l0 xs hxs hok l (i + 1) (by omega) h4 (by omega)
    refine Ev.step (fun k => by rw [turnstileref09_fine.l0]) ?_
    simp only [if_pos h2, if_pos h0, hf]
    rw [wrap_in (n := i + 1) (by omega)]
    refine Ev.bind (ristok_ev _ (by omega)) ?_
    rw [List.all_cons]
    unfold fineF
    cases (tokL f.f0.data.toList && decide (f.f0.size ≠ 0))
    · simpa using Ev.now false
    · simp only [if_true, Bool.true_and]
      refine Ev.bind (all_ev _ 2 (by omega)) ?_
      cases allB 2 f.f1.data.toList
      · simpa using Ev.now false
      · simp only [if_true, Bool.true_and]
        refine Ev.bind (rtrim_ev _ (by omega)) ?_
        by_cases ht : trm f.f1.data.toList = f.f1.data.toList
        · simp only [ba_toList, ht, if_true, decide_true, Bool.true_and]
          exact ih
        · simp only [ba_toList, ht, if_false, decide_false, Bool.false_and]
          exact Ev.now _
theorem fine_ev (xs : List S67) (hxs : xs.length ≤ 4398046511104) (hok : ∀ f ∈ xs, f.f0.size ≤ 1048576 ∧ f.f1.size ≤ 1048576) : Ev (fun k => turnstileref09_fine.f k xs) (fineB xs) := by
  unfold turnstileref09_fine.f fineB
  by_cases h : (xs.length : Int) > 64
  · simp only [if_pos h]
    rw [decide_eq_false (by omega), Bool.false_and]
    exact Ev.now _
  · simp only [if_neg h]
    rw [decide_eq_true (by omega), Bool.true_and]
    exact fine_l0 xs hxs hok xs 0 (by omega) rfl (by omega)
theorem line_bytes (f : S67) : bytesOf (turnstileref09_head_line f) = lineL f := by
  unfold turnstileref09_head_line lineL
  rw [bytesOf_app, bytesOf_app, bytesOf_app]
  rfl
theorem out_bytes (a : ByteArray) (l : List S67) : turnstileref09_head_out a l = headL (bytesOf a) l ++ [10] := by
  have key : ∀ (l : List S67) (acc : List Int), l.foldl (fun a f => a ++ bytesOf (turnstileref09_head_line f)) acc = acc ++ l.flatMap lineL := by
    intro l
    induction l with
    | nil => intro acc; simp
    | cons f l ih => intro acc; rw [List.foldl_cons, ih, line_bytes, List.flatMap_cons, List.append_assoc]
  unfold turnstileref09_head_out turnstileref09_head_acc headL
  rw [key, bytesOf_app, show bytesOf (⟨#[13, 10]⟩ : ByteArray) = [13, 10] from rfl]
  simp
theorem lines_len (l : List S67) (hok : ∀ f ∈ l, f.f0.size ≤ 1048576 ∧ f.f1.size ≤ 1048576) : (l.flatMap lineL).length ≤ l.length * 2097156 := by
  induction l with
  | nil => simp
  | cons f l ih =>
    have h1 := hok f List.mem_cons_self
    have h2 := ih (fun g hg => hok g (List.mem_cons_of_mem _ hg))
    have h3 : (lineL f).length = f.f0.size + 2 + f.f1.size + 2 := by
      unfold lineL
      simp only [List.length_append, bytesOf_length, List.length_cons, List.length_nil]
    rw [List.flatMap_cons, List.length_append, h3, List.length_cons]
    omega
theorem rhead_f (a : ByteArray) (l : List S67) (ha : a.size ≤ 1000000000) (hn : l.length ≤ 64) (hok : ∀ f ∈ l, f.f0.size ≤ 1048576 ∧ f.f1.size ≤ 1048576) :
    turnstileref09_head.f a l = some (headL (bytesOf a) l ++ [10], decide (((headL (bytesOf a) l ++ [10]).length : Int) ≤ 65536)) := by
  unfold turnstileref09_head.f
  have h1 := lines_len l hok
  have h2 : (headL (bytesOf a) l ++ [10]).length = a.size + 2 + (l.flatMap lineL).length + 1 + 1 := by simp [headL, bytesOf_length]; omega
  rw [out_bytes]
  rw [if_pos ⟨ha, fun f hf => by have := hok f hf; omega, by omega, by omega⟩]
/-- What a request's head is as bytes. -/
def wrOk (qm qt : ByteArray) (m : Int) (l : List S67) : Bool := tokL qm.data.toList && decide (qm.size ≠ 0) && decide (qt.size ≠ 0) && allB 1 qt.data.toList && decide (0 ≤ m) && decide (m ≤ 1) && fineB l
def textS (a : Int) : List UInt8 := if a < 10 then [UInt8.ofNat (48 + a.toNat)] else [UInt8.ofNat (48 + a.toNat / 100), UInt8.ofNat (48 + a.toNat / 10 % 10), UInt8.ofNat (48 + a.toNat % 10)]
theorem text_all : ∀ n : Fin 600, (n.val < 10 ∨ 100 ≤ n.val) → turnstileref01_Text.f 20 ((n.val : Nat) : Int) = some (⟨(textS ((n.val : Nat) : Int)).toArray⟩ : ByteArray) := by decide +kernel
theorem rtext_s (a : Int) (h : 0 ≤ a ∧ a < 10 ∨ 100 ≤ a ∧ a ≤ 599) : Ev (fun k => turnstileref01_Text.f k a) (⟨(textS a).toArray⟩ : ByteArray) := by
  have := text_all ⟨a.toNat, by omega⟩ (by simp only; omega)
  simp only [show ((a.toNat : Nat) : Int) = a by omega] at this
  exact Ev.of (fun k => turnstileref01_Text.mono _ _) (k := 20) this
theorem text_one (m : Int) (h : m = 0 ∨ m = 1) : (⟨(textS m).toArray⟩ : ByteArray).size = 1 ∧ bytesOf (⟨(textS m).toArray⟩ : ByteArray) = [48 + m] := by
  rcases h with rfl | rfl <;> exact ⟨rfl, rfl⟩
theorem size_lit8 : (⟨#[32, 72, 84, 84, 80, 47, 49, 46]⟩ : ByteArray).size = 8 := rfl
theorem written_no (k : Nat) (qm qt : ByteArray) (m : Int) (l : List S67) : turnstileref09_Written.j0 (k + 1) true qm qt m l = some ([], false) := by
  rw [turnstileref09_Written.j0, if_pos rfl]
theorem written_ev (qm qt : ByteArray) (m : Int) (l : List S67) (hqm : qm.size ≤ 1048576) (hqt : qt.size ≤ 1048576) (hl : l.length ≤ 1048576) (hok : ∀ f ∈ l, f.f0.size ≤ 1048576 ∧ f.f1.size ≤ 1048576) :
    Ev (fun k => turnstileref09_Written.f k qm qt m l) (if wrOk qm qt m l = true then (headL (reqL qm qt m) l ++ [10], decide (((headL (reqL qm qt m) l ++ [10]).length : Int) ≤ 65536)) else ([], false)) := by
  have no : Ev (fun k => turnstileref09_Written.j0 k true qm qt m l) (([] : List Int), false) := Ev.step (fun k => written_no k qm qt m l) (Ev.now _)
  unfold turnstileref09_Written.f wrOk
  refine Ev.bind (ristok_ev _ (by omega)) ?_
  cases (tokL qm.data.toList && decide (qm.size ≠ 0))
  · simpa using no
  · simp only [if_true, Bool.true_and]
    by_cases z : qt.size = 0
    · have z' : qt.toList = [] := by rw [ba_toList]; exact List.eq_nil_of_length_eq_zero (by rw [ba_len]; exact z)
      simp only [if_pos z']
      simpa [z] using no
    · have z' : ¬ qt.toList = [] := fun e => z (by rw [← ba_len, ← ba_toList, e]; rfl)
      simp only [if_neg z', decide_eq_true (show qt.size ≠ 0 from z), Bool.true_and]
      refine Ev.bind (all_ev _ 1 (by omega)) ?_
      cases allB 1 qt.data.toList
      · simpa using no
      · simp only [if_true, Bool.true_and]
        by_cases m0 : m < 0
        · simp only [if_pos m0]
          rw [decide_eq_false (show ¬ 0 ≤ m by omega)]
          simpa using no
        · by_cases m1 : m > 1
          · simp only [if_neg m0, if_pos m1]
            rw [decide_eq_false (show ¬ m ≤ 1 by omega)]
            simpa using no
          · simp only [if_neg m0, if_neg m1]
            rw [decide_eq_true (show 0 ≤ m by omega), decide_eq_true (show m ≤ 1 by omega)]
            refine Ev.bind (fine_ev l (by omega) hok) ?_
            cases hf : fineB l
            · simpa using no
            · have h64 : l.length ≤ 64 := by
                unfold fineB at hf
                simp only [Bool.and_eq_true, decide_eq_true_eq] at hf
                exact hf.1
              obtain ⟨t1, t2⟩ := text_one m (by omega)
              refine Ev.step (fun k => by rw [turnstileref09_Written.j0]) ?_
              have s1 : (⟨#[32]⟩ : ByteArray).size = 1 := rfl
              have s2 := size_lit8
              simp only [Bool.not_true, Bool.false_eq_true, if_false, Bool.true_and, if_true]
              simp only [ByteArray.size_append, s1, s2]
              simp only [if_pos (show qm.size + 1 ≤ 9223372036854775807 by omega), if_pos (show qm.size + 1 + qt.size ≤ 9223372036854775807 by omega), if_pos (show qm.size + 1 + qt.size + 8 ≤ 9223372036854775807 by omega)]
              refine Ev.bind (rtext_s m (by omega)) ?_
              simp only [t1, if_pos (show qm.size + 1 + qt.size + 8 + 1 ≤ 9223372036854775807 by omega)]
              rw [rhead_f _ _ (by simp only [ByteArray.size_append, s1, s2, t1]; omega) h64 hok]
              have e : bytesOf (qm ++ (⟨#[32]⟩ : ByteArray) ++ qt ++ (⟨#[32, 72, 84, 84, 80, 47, 49, 46]⟩ : ByteArray) ++ (⟨(textS m).toArray⟩ : ByteArray)) = reqL qm qt m := by
                rw [bytesOf_app, bytesOf_app, bytesOf_app, bytesOf_app, t2, show bytesOf (⟨#[32]⟩ : ByteArray) = [32] from rfl, show bytesOf (⟨#[32, 72, 84, 84, 80, 47, 49, 46]⟩ : ByteArray) = [32, 72, 84, 84, 80, 47, 49, 46] from rfl]
                simp [reqL, verL]
              rw [e]
              exact Ev.now _

end Go.Proofs.YtmmlacbcolfngaaDoor.Q
