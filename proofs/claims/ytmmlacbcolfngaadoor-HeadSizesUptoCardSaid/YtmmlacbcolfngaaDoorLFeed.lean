/- Plain Lean on what the printed functions answer (Feed); for all arguments that the lemmas name. -/
import Derived.Test.YtmmlacbcolfngaaDoorQ0
import Derived.Test.YtmmlacbcolfngaaDoorHRdOut
import Derived.Test.YtmmlacbcolfngaaDoorLStrs
namespace Go.Proofs.YtmmlacbcolfngaaDoor.Q
open Go.RowKit Go.Proofs.YtmmlacbcolfngaaDoorW.PrintWords Go.Proofs.YtmmlacbcolfngaaDoorW.PrintLast Go.Proofs.YtmmlacbcolfngaaDoorW.PrintMore
set_option linter.unusedVariables false
set_option linter.unusedSimpArgs false
theorem strOf_bytes (s : ByteArray) : strOfNums (bytesOf s) = s := by
  unfold strOfNums bytesOf
  rw [List.map_map]
  have h : (fun b : UInt8 => UInt8.ofNat ((b.toNat : Int)).toNat) = id := by
    funext b
    simp
  cases s with | mk d =>
  simp only [Function.comp_def, h, List.map_id_fun, id, Array.toArray_toList]
theorem bytesOf_app (a b : ByteArray) : bytesOf (a ++ b) = bytesOf a ++ bytesOf b := by
  unfold bytesOf
  rw [ByteArray.data_append, Array.toList_append, List.map_append]
/-- One byte more, the error laid. -/
def RdSt.step (s : RdSt) (c : Int) : RdSt := {(s.byte c).1 with err := (s.byte c).2}
/-- All these bytes are taken. -/
inductive Eats : RdSt → List Int → RdSt → Prop
  | nil (s : RdSt) : Eats s [] s
  | cons {s t : RdSt} {c : Int} {l : List Int} (h1 : s.err = none) (h2 : s.at_ ≠ 11) (h3 : Eats (s.step c) l t) : Eats s (c :: l) t
theorem Eats.app {s t u : RdSt} {l m : List Int} (h : Eats s l t) (k : Eats t m u) : Eats s (l ++ m) u := by
  induction h with
  | nil => exact k
  | cons h1 h2 h3 ih => exact .cons h1 h2 (ih k)
theorem Eats.feed {s t : RdSt} {l : List Int} (h : Eats s l t) (m : List Int) : s.feed (l ++ m) = ((t.feed m).1, l.length + (t.feed m).2) := by
  induction h with
  | nil => simp
  | cons h1 h2 h3 ih =>
    rw [List.cons_append, RdSt.feed, if_pos ⟨h1, h2⟩]
    have e := ih
    unfold RdSt.step at e
    rw [e]
    simp only [List.length_cons]
    congr 1
    omega
theorem Eats.feed0 {s t : RdSt} {l : List Int} (h : Eats s l t) : s.feed l = (t, l.length) := by
  have := h.feed []
  simpa [RdSt.feed] using this
/-- Where a reader stops, nothing behind is taken. -/
theorem Eats.stop {s t : RdSt} {l : List Int} (h : Eats s l t) (ht : t.err ≠ none ∨ t.at_ = 11) (m : List Int) : s.feed (l ++ m) = (t, l.length) := by
  rw [h.feed]
  cases m with
  | nil => simp [RdSt.feed]
  | cons c m =>
    rw [RdSt.feed, if_neg (fun q => ht.elim (fun a => a q.1) (fun a => q.2 a))]
    simp
/-- What is taken can be cut. -/
theorem Eats.cut {s t : RdSt} : ∀ {l m : List Int}, Eats s (l ++ m) t → ∃ u, Eats s l u ∧ Eats u m t ∧ (m ≠ [] → u.err = none ∧ u.at_ ≠ 11)
  | [], m, h => ⟨s, .nil s, h, fun hm => by cases h with | nil => exact absurd rfl hm | cons h1 h2 h3 => exact ⟨h1, h2⟩⟩
  | c :: l, m, h => by
    cases h with
    | cons h1 h2 h3 =>
      obtain ⟨u, a, b, d⟩ := Eats.cut h3
      exact ⟨u, .cons h1 h2 a, b, d⟩
/-- The part under way is longer by these bytes. -/
def RdSt.more (s : RdSt) (l : List Int) : RdSt := {s with word := s.word ++ l, len := s.len + l.length}
theorem more_nil (s : RdSt) : s.more [] = s := by simp [RdSt.more]
theorem more_more (s : RdSt) (l m : List Int) : (s.more l).more m = s.more (l ++ m) := by
  simp only [RdSt.more, List.append_assoc, List.length_append]
  congr 1
  push_cast
  omega
structure Live (s : RdSt) (k : Int) (b : Bool) : Prop where
  err : s.err = none
  at_ : s.at_ = k
  asks : s.asks = b
  field : s.field.length ≤ 64
theorem Live.more {s : RdSt} {k : Int} {b : Bool} (h : Live s k b) (l : List Int) : Live (s.more l) k b := ⟨h.err, h.at_, h.asks, h.field⟩
/-- A byte of a part that goes on. -/
def Goes (s : RdSt) (c : Int) : Prop := s.len + 1 ≤ s.most → s.step c = s.more [c]
/-- A byte that ends a part well. -/
theorem step_end {s t : RdSt} {c er : Int} (hl : t.len ≤ t.most) (hf : t.field.length ≤ 64) (hb : s.byte c = (t, judge t true er)) : s.step c = {t with err := none} := by
  unfold RdSt.step
  rw [hb]
  unfold judge
  rw [if_neg (by omega), if_pos rfl, if_neg (by omega)]
theorem push_goes {s : RdSt} {k : Int} {b : Bool} (h : Live s k b) {c er : Int} (hb : s.byte c = (({s with len := s.len + 1} : RdSt).push c, judge (({s with len := s.len + 1} : RdSt).push c) true er)) : Goes s c := by
  intro hl
  rw [step_end (t := ({s with len := s.len + 1} : RdSt).push c) hl h.field hb]
  have he := h.err
  cases s
  simp_all [RdSt.push, RdSt.more]
theorem eats_run {k : Int} {b : Bool} (hk : k ≠ 11) (p : Int → Bool) (hs : ∀ s c, Live s k b → p c = true → Goes s c) : ∀ (l : List Int) (s : RdSt), Live s k b → s.len + l.length ≤ s.most → (∀ c ∈ l, p c = true) → Eats s l (s.more l)
  | [], s, _, _, _ => by rw [more_nil]; exact .nil s
  | c :: l, s, h, hl, hp => by
    have hl' : s.len + (l.length + 1 : Nat) ≤ s.most := hl
    have g := hs s c h (hp c List.mem_cons_self) (by omega)
    refine .cons h.err (by rw [h.at_]; exact hk) ?_
    have e := eats_run hk p hs l (s.more [c]) (h.more _) (by show s.len + (([c] : List Int).length : Nat) + l.length ≤ s.most; simp only [List.length_cons, List.length_nil]; omega) (fun x hx => hp x (List.mem_cons_of_mem _ hx))
    rw [more_more] at e
    rw [g]
    exact e
theorem goes_method (s : RdSt) (c : Int) (h : Live s 0 true) (hc : isTok c = true) : Goes s c := by
  refine push_goes h (er := 20) ?_
  have hn : c ≠ 32 := fun e => by subst e; exact absurd hc (by decide)
  unfold RdSt.byte RdSt.reqLine
  simp [h.at_, h.asks, hn, hc]
theorem goes_target (s : RdSt) (c : Int) (h : Live s 1 true) (hc : isVis c = true) : Goes s c := by
  refine push_goes h (er := 20) ?_
  have hn : c ≠ 32 := fun e => by subst e; exact absurd hc (by decide)
  unfold RdSt.byte RdSt.reqLine
  simp [h.at_, h.asks, hn, hc]
theorem goes_ver (s : RdSt) (c : Int) (h : Live s 2 true) (hc : isVersion s.word c = true) : Goes s c := by
  refine push_goes h (er := 20) ?_
  have hn : ¬ (c = 13 ∧ s.word.length = 8) := by
    rintro ⟨e, e2⟩
    unfold isVersion at hc
    rw [if_neg (by omega), if_neg (by omega)] at hc
    cases hc
  unfold RdSt.byte RdSt.reqLine
  simp [h.at_, h.asks, hn, hc]
theorem goes_name (s : RdSt) (c : Int) (b : Bool) (h : Live s 7 b) (hc : isTok c = true) : Goes s c := by
  refine push_goes h (er := 21) ?_
  have hn : c ≠ 13 := fun e => by subst e; exact absurd hc (by decide)
  have hm : c ≠ 58 := fun e => by subst e; exact absurd hc (by decide)
  unfold RdSt.byte RdSt.fldLine
  simp [h.at_, hn, hm, hc]
theorem goes_value (s : RdSt) (c : Int) (b : Bool) (h : Live s 8 b) (hc : isVal c = true) : Goes s c := by
  refine push_goes h (er := 21) ?_
  have hn : c ≠ 13 := fun e => by subst e; exact absurd hc (by decide)
  unfold RdSt.byte RdSt.fldLine
  simp [h.at_, hn, hc]
theorem goes_vers (s : RdSt) (c : Int) (h : Live s 3 false) (hc : isVersion s.word c = true) : Goes s c := by
  refine push_goes h (er := 20) ?_
  have hn : ¬ (c = 32 ∧ s.word.length = 8) := by
    rintro ⟨e, e2⟩
    unfold isVersion at hc
    rw [if_neg (by omega), if_neg (by omega)] at hc
    cases hc
  unfold RdSt.byte RdSt.statLine
  simp [h.at_, h.asks, hn, hc]
theorem goes_code (s : RdSt) (c : Int) (h : Live s 4 false) (hl : s.word.length ≠ 3) (hc : (digB c && (decide (0 < s.word.length) || (decide (49 ≤ c) && decide (c ≤ 53)))) = true) : Goes s c := by
  refine push_goes h (er := 20) ?_
  unfold RdSt.byte RdSt.statLine
  simp only [h.at_, h.asks]
  simp [hl, hc]
theorem goes_reason (s : RdSt) (c : Int) (h : Live s 5 false) (hc : isVal c = true) : Goes s c := by
  refine push_goes h (er := 20) ?_
  have hn : c ≠ 13 := fun e => by subst e; exact absurd hc (by decide)
  unfold RdSt.byte RdSt.statLine
  simp [h.at_, h.asks, hn, hc]
/-- The eight bytes of a version. -/
def verL (m : Int) : List Int := [72, 84, 84, 80, 47, 49, 46, 48 + m]
theorem eats_ver {k : Int} {b : Bool} (hk : k ≠ 11) (hs : ∀ s c, Live s k b → isVersion s.word c = true → Goes s c) (s : RdSt) (h : Live s k b) (hw : s.word = []) (hl : s.len + 8 ≤ s.most) (m : Int) (hm : m = 0 ∨ m = 1) : Eats s (verL m) (s.more (verL m)) := by
  have one : ∀ (l : List Int) (c : Int), (l.length : Int) + 1 ≤ 8 → isVersion l c = true → Eats s l (s.more l) → Eats s (l ++ [c]) (s.more (l ++ [c])) := by
    intro l c hlen hv e
    have L := h.more l
    have g := hs (s.more l) c L (by show isVersion (s.word ++ l) c = true; rw [hw]; exact hv) (by show s.len + (l.length : Int) + 1 ≤ s.most; omega)
    refine e.app (.cons L.err (by rw [L.at_]; exact hk) ?_)
    rw [g, more_more]
    exact .nil _
  have e0 : Eats s [] (s.more []) := by rw [more_nil]; exact .nil s
  have e1 := one [] 72 (by decide) (by decide) e0
  have e2 := one [72] 84 (by decide) (by decide) e1
  have e3 := one [72, 84] 84 (by decide) (by decide) e2
  have e4 := one [72, 84, 84] 80 (by decide) (by decide) e3
  have e5 := one [72, 84, 84, 80] 47 (by decide) (by decide) e4
  have e6 := one [72, 84, 84, 80, 47] 49 (by decide) (by decide) e5
  have e7 := one [72, 84, 84, 80, 47, 49] 46 (by decide) (by decide) e6
  rcases hm with rfl | rfl
  · exact one [72, 84, 84, 80, 47, 49, 46] 48 (by decide) (by decide) e7
  · exact one [72, 84, 84, 80, 47, 49, 46] 49 (by decide) (by decide) e7
theorem minor_ver (m : Int) (hm : m = 0 ∨ m = 1) : minorOf (verL m) = m := by rcases hm with rfl | rfl <;> decide
theorem end_method {s : RdSt} (h : Live s 0 true) (hw : 0 < s.word.length) (hl : s.len + 1 ≤ s.most) : s.step 32 = {s with word := [], at_ := 1, qm := strOfNums s.word, len := s.len + 1} := by
  rw [step_end (s := s) (c := 32) (er := 20) (t := {({s with len := s.len + 1} : RdSt).taken 1 with qm := strOfNums s.word}) hl h.field ?_]
  · have he := h.err
    cases s
    simp_all [RdSt.taken]
  · unfold RdSt.byte RdSt.reqLine
    simp [h.at_, h.asks, hw]
theorem end_target {s : RdSt} (h : Live s 1 true) (hw : 0 < s.word.length) (hl : s.len + 1 ≤ s.most) : s.step 32 = {s with word := [], at_ := 2, qt := strOfNums s.word, len := s.len + 1} := by
  rw [step_end (s := s) (c := 32) (er := 20) (t := {({s with len := s.len + 1} : RdSt).taken 2 with qt := strOfNums s.word}) hl h.field ?_]
  · have he := h.err
    cases s
    simp_all [RdSt.taken]
  · unfold RdSt.byte RdSt.reqLine
    simp [h.at_, h.asks, hw]
theorem end_ver {s : RdSt} (h : Live s 2 true) (hw : s.word.length = 8) (hl : s.len + 1 ≤ s.most) : s.step 13 = {s with word := [], at_ := 6, qn := minorOf s.word, len := s.len + 1} := by
  rw [step_end (s := s) (c := 13) (er := 20) (t := {({s with len := s.len + 1} : RdSt).taken 6 with qn := minorOf s.word}) hl h.field ?_]
  · have he := h.err
    cases s
    simp_all [RdSt.taken]
  · unfold RdSt.byte RdSt.reqLine
    simp [h.at_, h.asks, hw]
theorem end_vers {s : RdSt} (h : Live s 3 false) (hw : s.word.length = 8) (hl : s.len + 1 ≤ s.most) : s.step 32 = {s with word := [], at_ := 4, pn := minorOf s.word, len := s.len + 1} := by
  rw [step_end (s := s) (c := 32) (er := 20) (t := {({s with len := s.len + 1} : RdSt).taken 4 with pn := minorOf s.word}) hl h.field ?_]
  · have he := h.err
    cases s
    simp_all [RdSt.taken]
  · unfold RdSt.byte RdSt.statLine
    simp [h.at_, h.asks, hw]
theorem end_code {s : RdSt} (h : Live s 4 false) (hw : s.word.length = 3) (hl : s.len + 1 ≤ s.most) : s.step 32 = {s with word := [], at_ := 5, ps := decOf s.word, len := s.len + 1} := by
  rw [step_end (s := s) (c := 32) (er := 20) (t := {({s with len := s.len + 1} : RdSt).taken 5 with ps := decOf s.word}) hl h.field ?_]
  · have he := h.err
    cases s
    simp_all [RdSt.taken]
  · unfold RdSt.byte RdSt.statLine
    simp only [h.at_, h.asks]
    simp [hw]
theorem end_reason {s : RdSt} (h : Live s 5 false) (hl : s.len + 1 ≤ s.most) : s.step 13 = {s with word := [], at_ := 6, pr := strOfNums s.word, len := s.len + 1} := by
  rw [step_end (s := s) (c := 13) (er := 20) (t := {({s with len := s.len + 1} : RdSt).taken 6 with pr := strOfNums s.word}) hl h.field ?_]
  · have he := h.err
    cases s
    simp_all [RdSt.taken]
  · unfold RdSt.byte RdSt.statLine
    simp [h.at_, h.asks]
theorem end_line {s : RdSt} {b : Bool} (h : Live s 6 b) (hl : s.len + 1 ≤ s.most) : s.step 10 = {s with at_ := 7, len := s.len + 1} := by
  rw [step_end (s := s) (c := 10) (er := 20) (t := {s with len := s.len + 1, at_ := 7}) hl h.field ?_]
  · have he := h.err
    cases s
    simp_all
  · unfold RdSt.byte
    simp [h.at_]
theorem end_name {s : RdSt} {b : Bool} (h : Live s 7 b) (hw : 0 < s.word.length) (hl : s.len + 1 ≤ s.most) : s.step 58 = {s with word := [], at_ := 8, name := strOfNums s.word, len := s.len + 1} := by
  rw [step_end (s := s) (c := 58) (er := 21) (t := {({s with len := s.len + 1} : RdSt).taken 8 with name := strOfNums s.word}) hl h.field ?_]
  · have he := h.err
    cases s
    simp_all [RdSt.taken]
  · unfold RdSt.byte RdSt.fldLine
    simp [h.at_, hw]
theorem end_value {s : RdSt} {b : Bool} (h : Live s 8 b) (hl : s.len + 1 ≤ s.most) : s.step 13 = {s with at_ := 9, len := s.len + 1} := by
  rw [step_end (s := s) (c := 13) (er := 21) (t := {s with len := s.len + 1, at_ := 9}) hl h.field ?_]
  · have he := h.err
    cases s
    simp_all
  · unfold RdSt.byte RdSt.fldLine
    simp [h.at_]
theorem end_field {s : RdSt} {b : Bool} (h : Live s 9 b) (hf : s.field.length + 1 ≤ 64) (hl : s.len + 1 ≤ s.most) : s.step 10 = {s with word := [], at_ := 7, field := s.field ++ [⟨s.name, trimOf s.word⟩], len := s.len + 1} := by
  rw [step_end (s := s) (c := 10) (er := 21) (t := {({s with len := s.len + 1} : RdSt).taken 7 with field := s.field ++ [⟨s.name, trimOf s.word⟩]}) hl (by simpa using hf) ?_]
  · have he := h.err
    cases s
    simp_all [RdSt.taken]
  · unfold RdSt.byte RdSt.fldLine
    simp [h.at_]
theorem end_empty {s : RdSt} {b : Bool} (h : Live s 7 b) (hw : s.word = []) (hl : s.len + 1 ≤ s.most) : s.step 13 = {s with at_ := 10, len := s.len + 1} := by
  rw [step_end (s := s) (c := 13) (er := 21) (t := {s with len := s.len + 1, at_ := 10}) hl h.field ?_]
  · have he := h.err
    cases s
    simp_all
  · unfold RdSt.byte RdSt.fldLine
    simp [h.at_, hw]
theorem end_head {s : RdSt} {b : Bool} (h : Live s 10 b) (hl : s.len + 1 ≤ s.most) : s.step 10 = {s with at_ := 11, len := s.len + 1} := by
  rw [step_end (s := s) (c := 10) (er := 21) (t := {s with len := s.len + 1, at_ := 11}) hl h.field ?_]
  · have he := h.err
    cases s
    simp_all
  · unfold RdSt.byte RdSt.fldLine
    simp [h.at_]

end Go.Proofs.YtmmlacbcolfngaaDoor.Q
