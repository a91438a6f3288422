/- Several texts in one: plain lemmas, each for the arguments that it names. -/
import Derived.Test.YtmmlacbcolfngaaDoorQ0
import Derived.Test.YtmmlacbcolfngaaDoorHRdOut
import Derived.Test.YtmmlacbcolfngaaDoorLStrs
import Derived.Test.YtmmlacbcolfngaaDoorLChars
import Derived.Test.YtmmlacbcolfngaaDoorQTurnstileref09
import Derived.Test.YtmmlacbcolfngaaDoorQTurnstileref092
import Derived.Test.YtmmlacbcolfngaaDoorQTurnstileref01
import Derived.Test.YtmmlacbcolfngaaDoorQTurnstileref012
import Derived.Test.YtmmlacbcolfngaaDoorQTurnstileref09stub
import Derived.Test.YtmmlacbcolfngaaDoorQHeadstub
import Derived.Test.YtmmlacbcolfngaaDoorLNumbers
import Derived.Test.YtmmlacbcolfngaaDoorQTurnstilelaw09stub
import Derived.Test.YtmmlacbcolfngaaDoorQTurnstilelaw09stub2
import Derived.Test.YtmmlacbcolfngaaDoorQTurnstilelaw09
namespace Go.Proofs.YtmmlacbcolfngaaDoor.Q
open Go.RowKit Go.Proofs.YtmmlacbcolfngaaDoorW.PrintWords Go.Proofs.YtmmlacbcolfngaaDoorW.PrintLast Go.Proofs.YtmmlacbcolfngaaDoorW.PrintMore
set_option linter.unusedVariables false
set_option linter.unusedSimpArgs false
theorem strOf_bytes (s : ByteArray) : strOfNums (bytesOf s) = s := by
  unfold strOfNums bytesOf
  rw [List.map_map]
  have h : (fun b : UInt8 => UInt8.ofNat ((b.toNat : Int)).toNat) = id := by
    funext b
    simp
  cases s with | mk d =>
  simp only [Function.comp_def, h, List.map_id_fun, id, Array.toArray_toList]
theorem bytesOf_app (a b : ByteArray) : bytesOf (a ++ b) = bytesOf a ++ bytesOf b := by
  unfold bytesOf
  rw [ByteArray.data_append, Array.toList_append, List.map_append]
/-- One byte more, the error laid. -/
def RdSt.step (s : RdSt) (c : Int) : RdSt := {(s.byte c).1 with err := (s.byte c).2}
/-- All these bytes are taken. -/
inductive Eats : RdSt → List Int → RdSt → Prop
  | nil (s : RdSt) : Eats s [] s
  | cons {s t : RdSt} {c : Int} {l : List Int} (h1 : s.err = none) (h2 : s.at_ ≠ 11) (h3 : Eats (s.step c) l t) : Eats s (c :: l) t
theorem Eats.app {s t u : RdSt} {l m : List Int} (h : Eats s l t) (k : Eats t m u) : Eats s (l ++ m) u := by
  induction h with
  | nil => exact k
  | cons h1 h2 h3 ih => exact .cons h1 h2 (ih k)
theorem Eats.feed {s t : RdSt} {l : List Int} (h : Eats s l t) (m : List Int) : s.feed (l ++ m) = ((t.feed m).1, l.length + (t.feed m).2) := by
  induction h with
  | nil => simp
  | cons h1 h2 h3 ih =>
    rw [List.cons_append, RdSt.feed, if_pos ⟨h1, h2⟩]
    have e := ih
    unfold RdSt.step at e
    rw [e]
    simp only [List.length_cons]
    congr 1
    omega
theorem Eats.feed0 {s t : RdSt} {l : List Int} (h : Eats s l t) : s.feed l = (t, l.length) := by
  have := h.feed []
  simpa [RdSt.feed] using this
/-- Where a reader stops, nothing behind is taken. -/
theorem Eats.stop {s t : RdSt} {l : List Int} (h : Eats s l t) (ht : t.err ≠ none ∨ t.at_ = 11) (m : List Int) : s.feed (l ++ m) = (t, l.length) := by
  rw [h.feed]
  cases m with
  | nil => simp [RdSt.feed]
  | cons c m =>
    rw [RdSt.feed, if_neg (fun q => ht.elim (fun a => a q.1) (fun a => q.2 a))]
    simp
/-- What is taken can be cut. -/
theorem Eats.cut {s t : RdSt} : ∀ {l m : List Int}, Eats s (l ++ m) t → ∃ u, Eats s l u ∧ Eats u m t ∧ (m ≠ [] → u.err = none ∧ u.at_ ≠ 11)
  | [], m, h => ⟨s, .nil s, h, fun hm => by cases h with | nil => exact absurd rfl hm | cons h1 h2 h3 => exact ⟨h1, h2⟩⟩
  | c :: l, m, h => by
    cases h with
    | cons h1 h2 h3 =>
      obtain ⟨u, a, b, d⟩ := Eats.cut h3
      exact ⟨u, .cons h1 h2 a, b, d⟩
/-- The part under way is longer by these bytes. -/
def RdSt.more (s : RdSt) (l : List Int) : RdSt := {s with word := s.word ++ l, len := s.len + l.length}
theorem more_nil (s : RdSt) : s.more [] = s := by simp [RdSt.more]
theorem more_more (s : RdSt) (l m : List Int) : (s.more l).more m = s.more (l ++ m) := by
  simp only [RdSt.more, List.append_assoc, List.length_append]
  congr 1
  push_cast
  omega
structure Live (s : RdSt) (k : Int) (b : Bool) : Prop where
  err : s.err = none
  at_ : s.at_ = k
  asks : s.asks = b
  field : s.field.length ≤ 64
theorem Live.more {s : RdSt} {k : Int} {b : Bool} (h : Live s k b) (l : List Int) : Live (s.more l) k b := ⟨h.err, h.at_, h.asks, h.field⟩
/-- A byte of a part that goes on. -/
def Goes (s : RdSt) (c : Int) : Prop := s.len + 1 ≤ s.most → s.step c = s.more [c]
/-- A byte that ends a part well. -/
theorem step_end {s t : RdSt} {c er : Int} (hl : t.len ≤ t.most) (hf : t.field.length ≤ 64) (hb : s.byte c = (t, judge t true er)) : s.step c = {t with err := none} := by
  unfold RdSt.step
  rw [hb]
  unfold judge
  rw [if_neg (by omega), if_pos rfl, if_neg (by omega)]
theorem push_goes {s : RdSt} {k : Int} {b : Bool} (h : Live s k b) {c er : Int} (hb : s.byte c = (({s with len := s.len + 1} : RdSt).push c, judge (({s with len := s.len + 1} : RdSt).push c) true er)) : Goes s c := by
  intro hl
  rw [step_end (t := ({s with len := s.len + 1} : RdSt).push c) hl h.field hb]
  have he := h.err
  cases s
  simp_all [RdSt.push, RdSt.more]
theorem eats_run {k : Int} {b : Bool} (hk : k ≠ 11) (p : Int → Bool) (hs : ∀ s c, Live s k b → p c = true → Goes s c) : ∀ (l : List Int) (s : RdSt), Live s k b → s.len + l.length ≤ s.most → (∀ c ∈ l, p c = true) → Eats s l (s.more l)
  | [], s, _, _, _ => by rw [more_nil]; exact .nil s
  | c :: l, s, h, hl, hp => by
    have hl' : s.len + (l.length + 1 : Nat) ≤ s.most := hl
    have g := hs s c h (hp c List.mem_cons_self) (by omega)
    refine .cons h.err (by rw [h.at_]; exact hk) ?_
    have e := eats_run hk p hs l (s.more [c]) (h.more _) (by show s.len + (([c] : List Int).length : Nat) + l.length ≤ s.most; simp only [List.length_cons, List.length_nil]; omega) (fun x hx => hp x (List.mem_cons_of_mem _ hx))
    rw [more_more] at e
    rw [g]
    exact e
theorem goes_method (s : RdSt) (c : Int) (h : Live s 0 true) (hc : isTok c = true) : Goes s c := by
  refine push_goes h (er := 20) ?_
  have hn : c ≠ 32 := fun e => by subst e; exact absurd hc (by decide)
  unfold RdSt.byte RdSt.reqLine
  simp [h.at_, h.asks, hn, hc]
theorem goes_target (s : RdSt) (c : Int) (h : Live s 1 true) (hc : isVis c = true) : Goes s c := by
  refine push_goes h (er := 20) ?_
  have hn : c ≠ 32 := fun e => by subst e; exact absurd hc (by decide)
  unfold RdSt.byte RdSt.reqLine
  simp [h.at_, h.asks, hn, hc]
theorem goes_ver (s : RdSt) (c : Int) (h : Live s 2 true) (hc : isVersion s.word c = true) : Goes s c := by
  refine push_goes h (er := 20) ?_
  have hn : ¬ (c = 13 ∧ s.word.length = 8) := by
    rintro ⟨e, e2⟩
    unfold isVersion at hc
    rw [if_neg (by omega), if_neg (by omega)] at hc
    cases hc
  unfold RdSt.byte RdSt.reqLine
  simp [h.at_, h.asks, hn, hc]
theorem goes_name (s : RdSt) (c : Int) (b : Bool) (h : Live s 7 b) (hc : isTok c = true) : Goes s c := by
  refine push_goes h (er := 21) ?_
  have hn : c ≠ 13 := fun e => by subst e; exact absurd hc (by decide)
  have hm : c ≠ 58 := fun e => by subst e; exact absurd hc (by decide)
  unfold RdSt.byte RdSt.fldLine
  simp [h.at_, hn, hm, hc]
theorem goes_value (s : RdSt) (c : Int) (b : Bool) (h : Live s 8 b) (hc : isVal c = true) : Goes s c := by
  refine push_goes h (er := 21) ?_
  have hn : c ≠ 13 := fun e => by subst e; exact absurd hc (by decide)
  unfold RdSt.byte RdSt.fldLine
  simp [h.at_, hn, hc]
theorem goes_vers (s : RdSt) (c : Int) (h : Live s 3 false) (hc : isVersion s.word c = true) : Goes s c := by
  refine push_goes h (er := 20) ?_
  have hn : ¬ (c = 32 ∧ s.word.length = 8) := by
    rintro ⟨e, e2⟩
    unfold isVersion at hc
    rw [if_neg (by omega), if_neg (by omega)] at hc
    cases hc
  unfold RdSt.byte RdSt.statLine
  simp [h.at_, h.asks, hn, hc]
theorem goes_code (s : RdSt) (c : Int) (h : Live s 4 false) (hl : s.word.length ≠ 3) (hc : (digB c && (decide (0 < s.word.length) || (decide (49 ≤ c) && decide (c ≤ 53)))) = true) : Goes s c := by
  refine push_goes h (er := 20) ?_
  unfold RdSt.byte RdSt.statLine
  simp only [h.at_, h.asks]
  simp [hl, hc]
theorem goes_reason (s : RdSt) (c : Int) (h : Live s 5 false) (hc : isVal c = true) : Goes s c := by
  refine push_goes h (er := 20) ?_
  have hn : c ≠ 13 := fun e => by subst e; exact absurd hc (by decide)
  unfold RdSt.byte RdSt.statLine
  simp [h.at_, h.asks, hn, hc]
/-- The eight bytes of a version. -/
def verL (m : Int) : List Int := [72, 84, 84, 80, 47, 49, 46, 48 + m]
theorem eats_ver {k : Int} {b : Bool} (hk : k ≠ 11) (hs : ∀ s c, Live s k b → isVersion s.word c = true → Goes s c) (s : RdSt) (h : Live s k b) (hw : s.word = []) (hl : s.len + 8 ≤ s.most) (m : Int) (hm : m = 0 ∨ m = 1) : Eats s (verL m) (s.more (verL m)) := by
  have one : ∀ (l : List Int) (c : Int), (l.length : Int) + 1 ≤ 8 → isVersion l c = true → Eats s l (s.more l) → Eats s (l ++ [c]) (s.more (l ++ [c])) := by
    intro l c hlen hv e
    have L := h.more l
    have g := hs (s.more l) c L (by show isVersion (s.word ++ l) c = true; rw [hw]; exact hv) (by show s.len + (l.length : Int) + 1 ≤ s.most; omega)
    refine e.app (.cons L.err (by rw [L.at_]; exact hk) ?_)
    rw [g, more_more]
    exact .nil _
  have e0 : Eats s [] (s.more []) := by rw [more_nil]; exact .nil s
  have e1 := one [] 72 (by decide) (by decide) e0
  have e2 := one [72] 84 (by decide) (by decide) e1
  have e3 := one [72, 84] 84 (by decide) (by decide) e2
  have e4 := one [72, 84, 84] 80 (by decide) (by decide) e3
  have e5 := one [72, 84, 84, 80] 47 (by decide) (by decide) e4
  have e6 := one [72, 84, 84, 80, 47] 49 (by decide) (by decide) e5
  have e7 := one [72, 84, 84, 80, 47, 49] 46 (by decide) (by decide) e6
  rcases hm with rfl | rfl
  · exact one [72, 84, 84, 80, 47, 49, 46] 48 (by decide) (by decide) e7
  · exact one [72, 84, 84, 80, 47, 49, 46] 49 (by decide) (by decide) e7
theorem minor_ver (m : Int) (hm : m = 0 ∨ m = 1) : minorOf (verL m) = m := by rcases hm with rfl | rfl <;> decide
theorem end_method {s : RdSt} (h : Live s 0 true) (hw : 0 < s.word.length) (hl : s.len + 1 ≤ s.most) : s.step 32 = {s with word := [], at_ := 1, qm := strOfNums s.word, len := s.len + 1} := by
  rw [step_end (s := s) (c := 32) (er := 20) (t := {({s with len := s.len + 1} : RdSt).taken 1 with qm := strOfNums s.word}) hl h.field ?_]
  · have he := h.err
    cases s
    simp_all [RdSt.taken]
  · unfold RdSt.byte RdSt.reqLine
    simp [h.at_, h.asks, hw]
theorem end_target {s : RdSt} (h : Live s 1 true) (hw : 0 < s.word.length) (hl : s.len + 1 ≤ s.most) : s.step 32 = {s with word := [], at_ := 2, qt := strOfNums s.word, len := s.len + 1} := by
  rw [step_end (s := s) (c := 32) (er := 20) (t := {({s with len := s.len + 1} : RdSt).taken 2 with qt := strOfNums s.word}) hl h.field ?_]
  · have he := h.err
    cases s
    simp_all [RdSt.taken]
  · unfold RdSt.byte RdSt.reqLine
    simp [h.at_, h.asks, hw]
theorem end_ver {s : RdSt} (h : Live s 2 true) (hw : s.word.length = 8) (hl : s.len + 1 ≤ s.most) : s.step 13 = {s with word := [], at_ := 6, qn := minorOf s.word, len := s.len + 1} := by
  rw [step_end (s := s) (c := 13) (er := 20) (t := {({s with len := s.len + 1} : RdSt).taken 6 with qn := minorOf s.word}) hl h.field ?_]
  · have he := h.err
    cases s
    simp_all [RdSt.taken]
  · unfold RdSt.byte RdSt.reqLine
    simp [h.at_, h.asks, hw]
theorem end_vers {s : RdSt} (h : Live s 3 false) (hw : s.word.length = 8) (hl : s.len + 1 ≤ s.most) : s.step 32 = {s with word := [], at_ := 4, pn := minorOf s.word, len := s.len + 1} := by
  rw [step_end (s := s) (c := 32) (er := 20) (t := {({s with len := s.len + 1} : RdSt).taken 4 with pn := minorOf s.word}) hl h.field ?_]
  · have he := h.err
    cases s
    simp_all [RdSt.taken]
  · unfold RdSt.byte RdSt.statLine
    simp [h.at_, h.asks, hw]
theorem end_code {s : RdSt} (h : Live s 4 false) (hw : s.word.length = 3) (hl : s.len + 1 ≤ s.most) : s.step 32 = {s with word := [], at_ := 5, ps := decOf s.word, len := s.len + 1} := by
  rw [step_end (s := s) (c := 32) (er := 20) (t := {({s with len := s.len + 1} : RdSt).taken 5 with ps := decOf s.word}) hl h.field ?_]
  · have he := h.err
    cases s
    simp_all [RdSt.taken]
  · unfold RdSt.byte RdSt.statLine
    simp only [h.at_, h.asks]
    simp [hw]
theorem end_reason {s : RdSt} (h : Live s 5 false) (hl : s.len + 1 ≤ s.most) : s.step 13 = {s with word := [], at_ := 6, pr := strOfNums s.word, len := s.len + 1} := by
  rw [step_end (s := s) (c := 13) (er := 20) (t := {({s with len := s.len + 1} : RdSt).taken 6 with pr := strOfNums s.word}) hl h.field ?_]
  · have he := h.err
    cases s
    simp_all [RdSt.taken]
  · unfold RdSt.byte RdSt.statLine
    simp [h.at_, h.asks]
theorem end_line {s : RdSt} {b : Bool} (h : Live s 6 b) (hl : s.len + 1 ≤ s.most) : s.step 10 = {s with at_ := 7, len := s.len + 1} := by
  rw [step_end (s := s) (c := 10) (er := 20) (t := {s with len := s.len + 1, at_ := 7}) hl h.field ?_]
  · have he := h.err
    cases s
    simp_all
  · unfold RdSt.byte
    simp [h.at_]
theorem end_name {s : RdSt} {b : Bool} (h : Live s 7 b) (hw : 0 < s.word.length) (hl : s.len + 1 ≤ s.most) : s.step 58 = {s with word := [], at_ := 8, name := strOfNums s.word, len := s.len + 1} := by
  rw [step_end (s := s) (c := 58) (er := 21) (t := {({s with len := s.len + 1} : RdSt).taken 8 with name := strOfNums s.word}) hl h.field ?_]
  · have he := h.err
    cases s
    simp_all [RdSt.taken]
  · unfold RdSt.byte RdSt.fldLine
    simp [h.at_, hw]
theorem end_value {s : RdSt} {b : Bool} (h : Live s 8 b) (hl : s.len + 1 ≤ s.most) : s.step 13 = {s with at_ := 9, len := s.len + 1} := by
  rw [step_end (s := s) (c := 13) (er := 21) (t := {s with len := s.len + 1, at_ := 9}) hl h.field ?_]
  · have he := h.err
    cases s
    simp_all
  · unfold RdSt.byte RdSt.fldLine
    simp [h.at_]
theorem end_field {s : RdSt} {b : Bool} (h : Live s 9 b) (hf : s.field.length + 1 ≤ 64) (hl : s.len + 1 ≤ s.most) : s.step 10 = {s with word := [], at_ := 7, field := s.field ++ [⟨s.name, trimOf s.word⟩], len := s.len + 1} := by
  rw [step_end (s := s) (c := 10) (er := 21) (t := {({s with len := s.len + 1} : RdSt).taken 7 with field := s.field ++ [⟨s.name, trimOf s.word⟩]}) hl (by simpa using hf) ?_]
  · have he := h.err
    cases s
    simp_all [RdSt.taken]
  · unfold RdSt.byte RdSt.fldLine
    simp [h.at_]
theorem end_empty {s : RdSt} {b : Bool} (h : Live s 7 b) (hw : s.word = []) (hl : s.len + 1 ≤ s.most) : s.step 13 = {s with at_ := 10, len := s.len + 1} := by
  rw [step_end (s := s) (c := 13) (er := 21) (t := {s with len := s.len + 1, at_ := 10}) hl h.field ?_]
  · have he := h.err
    cases s
    simp_all
  · unfold RdSt.byte RdSt.fldLine
    simp [h.at_, hw]
theorem end_head {s : RdSt} {b : Bool} (h : Live s 10 b) (hl : s.len + 1 ≤ s.most) : s.step 10 = {s with at_ := 11, len := s.len + 1} := by
  rw [step_end (s := s) (c := 10) (er := 21) (t := {s with len := s.len + 1, at_ := 11}) hl h.field ?_]
  · have he := h.err
    cases s
    simp_all
  · unfold RdSt.byte RdSt.fldLine
    simp [h.at_]

end Go.Proofs.YtmmlacbcolfngaaDoor.Q
namespace Go.Proofs.YtmmlacbcolfngaaDoor.Q
open Go.RowKit Go.Proofs.YtmmlacbcolfngaaDoorW.PrintWords Go.Proofs.YtmmlacbcolfngaaDoorW.PrintLast Go.Proofs.YtmmlacbcolfngaaDoorW.PrintMore
set_option linter.unusedVariables false
set_option linter.unusedSimpArgs false
theorem trm_blank (l : List UInt8) (h : trm l = l) : trm (32 :: l) = l := by
  have e : trR blk (32 :: l) = if blk 32 = true ∧ trR blk l = [] then [] else 32 :: trR blk l := trR_cons blk 32 l
  have hb : blk 32 = true := by decide
  unfold trm at h ⊢
  rw [e]
  by_cases hr : trR blk l = []
  · rw [if_pos ⟨hb, hr⟩]
    rw [hr] at h
    exact h
  · rw [if_neg (fun q => hr q.2)]
    have : trL blk (32 :: trR blk l) = trL blk (trR blk l) := by simp [trL, hb]
    rw [this]
    exact h
theorem trimOf_blank (v : ByteArray) (h : trm v.data.toList = v.data.toList) : trimOf (32 :: bytesOf v) = v := by
  unfold trimOf
  have e : (strOfNums (32 :: bytesOf v)).data.toList = 32 :: v.data.toList := by
    have := strOf_bytes v
    unfold strOfNums at this ⊢
    simp only [List.map_cons, ]
    have h2 := congrArg (fun z => z.data.toList) this
    simp only at h2
    rw [h2]
    rfl
  rw [e, trm_blank _ h]
/-- A field's line. -/
def lineL (f : S67) : List Int := bytesOf f.f0 ++ [58, 32] ++ bytesOf f.f1 ++ [13, 10]
/-- What may stand in a line. -/
structure FineF (f : S67) : Prop where
  name : ∀ c ∈ bytesOf f.f0, isTok c = true
  ne : bytesOf f.f0 ≠ []
  val : ∀ c ∈ bytesOf f.f1, isVal c = true
  trim : trm f.f1.data.toList = f.f1.data.toList
theorem Eats.one {s t : RdSt} {k : Int} {b : Bool} (h : Live s k b) (hk : k ≠ 11) {c : Int} (e : s.step c = t) : Eats s [c] t := .cons h.err (by rw [h.at_]; exact hk) (by rw [e]; exact .nil t)
theorem eats_field {s : RdSt} {b : Bool} (h : Live s 7 b) (hw : s.word = []) (hf : s.field.length + 1 ≤ 64) (f : S67) (ok : FineF f) (hl : s.len + (lineL f).length ≤ s.most) :
    Eats s (lineL f) {s with word := [], at_ := 7, name := f.f0, field := s.field ++ [f], len := s.len + (lineL f).length} := by
  have hlen : (lineL f).length = (bytesOf f.f0).length + 2 + (bytesOf f.f1).length + 2 := by simp [lineL]; omega
  have L1 := h.more (bytesOf f.f0)
  have e1 := eats_run (by decide) _ (fun s c h hc => goes_name s c b h hc) (bytesOf f.f0) s h (by omega) ok.name
  have p1 : 0 < (s.more (bytesOf f.f0)).word.length := by
    have := List.length_pos_iff.2 ok.ne
    simp only [RdSt.more, List.length_append]
    omega
  have s1 := end_name L1 p1 (by show s.len + ((bytesOf f.f0).length : Nat) + 1 ≤ s.most; omega)
  have e2 := Eats.one L1 (by decide) s1
  have L2 : Live {s.more (bytesOf f.f0) with word := [], at_ := 8, name := strOfNums (s.more (bytesOf f.f0)).word, len := (s.more (bytesOf f.f0)).len + 1} 8 b := ⟨h.err, rfl, h.asks, h.field⟩
  have e3 := eats_run (by decide) _ (fun s c h hc => goes_value s c b h hc) (32 :: bytesOf f.f1) _ L2 (by simp only [RdSt.more, List.length_cons]; omega) (by
    intro c hc
    rcases List.mem_cons.1 hc with rfl | hc
    · decide
    · exact ok.val c hc)
  have L3 := L2.more (32 :: bytesOf f.f1)
  have s3 := end_value L3 (by simp only [RdSt.more, List.length_cons]; omega)
  have e4 := Eats.one L3 (by decide) s3
  have L4 : Live {(RdSt.more {s.more (bytesOf f.f0) with word := [], at_ := 8, name := strOfNums (s.more (bytesOf f.f0)).word, len := (s.more (bytesOf f.f0)).len + 1} (32 :: bytesOf f.f1)) with at_ := 9, len := (RdSt.more {s.more (bytesOf f.f0) with word := [], at_ := 8, name := strOfNums (s.more (bytesOf f.f0)).word, len := (s.more (bytesOf f.f0)).len + 1} (32 :: bytesOf f.f1)).len + 1} 9 b := ⟨h.err, rfl, h.asks, h.field⟩
  have s4 := end_field L4 hf (by simp only [RdSt.more, List.length_cons]; omega)
  have e5 := Eats.one L4 (by decide) s4
  have E := (((e1.app e2).app e3).app e4).app e5
  have eq : bytesOf f.f0 ++ [58] ++ (32 :: bytesOf f.f1) ++ [13] ++ [10] = lineL f := by simp [lineL]
  rw [eq] at E
  refine cast ?_ E
  congr 1
  simp only [RdSt.more, hw, List.nil_append, strOf_bytes, trimOf_blank _ ok.trim, List.length_cons]
  congr 1
  rw [hlen]
  push_cast
  omega
/-- All lines of fields. -/
theorem eats_fields {b : Bool} : ∀ (fs : List S67) (s : RdSt), Live s 7 b → s.word = [] → s.field.length + fs.length ≤ 64 → (∀ f ∈ fs, FineF f) → s.len + (fs.flatMap lineL).length ≤ s.most →
    ∃ nm, Eats s (fs.flatMap lineL) {s with word := [], at_ := 7, name := nm, field := s.field ++ fs, len := s.len + (fs.flatMap lineL).length}
  | [], s, h, hw, hf, ok, hl => by
    refine ⟨s.name, ?_⟩
    have : ({s with word := [], at_ := 7, name := s.name, field := s.field ++ [], len := s.len + ((([] : List S67).flatMap lineL).length : Nat)} : RdSt) = s := by
      have := h.at_
      cases s
      simp_all
    rw [this]
    exact .nil s
  | f :: fs, s, h, hw, hf, ok, hl => by
    rw [List.flatMap_cons, List.length_append] at hl
    rw [List.length_cons] at hf
    have e1 := eats_field h hw (by omega) f (ok f List.mem_cons_self) (by omega)
    obtain ⟨nm, e2⟩ := eats_fields fs {s with word := [], at_ := 7, name := f.f0, field := s.field ++ [f], len := s.len + (lineL f).length} ⟨h.err, rfl, h.asks, by simp; omega⟩ rfl (by simp; omega) (fun x hx => ok x (List.mem_cons_of_mem _ hx)) (by show s.len + ((lineL f).length : Nat) + ((fs.flatMap lineL).length : Nat) ≤ s.most; omega)
    refine ⟨nm, ?_⟩
    have E := e1.app e2
    rw [← List.flatMap_cons] at E
    refine cast ?_ E
    congr 1
    simp only [List.append_assoc, List.singleton_append, List.flatMap_cons, List.length_append]
    congr 1
    push_cast
    omega
/-- The bytes of a request's first line. -/
def reqL (qm qt : ByteArray) (m : Int) : List Int := bytesOf qm ++ [32] ++ bytesOf qt ++ [32] ++ verL m
/-- A whole head but for its last byte. -/
def headL (first : List Int) (fs : List S67) : List Int := first ++ [13, 10] ++ fs.flatMap lineL ++ [13]
theorem eats_rest {s : RdSt} {b : Bool} (h : Live s 6 b) (hw : s.word = []) (hf : s.field = []) (fs : List S67) (hn : fs.length ≤ 64) (ok : ∀ f ∈ fs, FineF f) (hl : s.len + 1 + (fs.flatMap lineL).length + 1 ≤ s.most) :
    ∃ nm, Eats s ([10] ++ fs.flatMap lineL ++ [13]) {s with word := [], at_ := 10, name := nm, field := fs, len := s.len + 1 + (fs.flatMap lineL).length + 1} := by
  have e1 := Eats.one h (by decide) (end_line h (by omega))
  obtain ⟨nm, e2⟩ := eats_fields (b := b) fs {s with at_ := 7, len := s.len + 1} ⟨h.err, rfl, h.asks, by rw [hf]; simp⟩ hw (by rw [hf]; simpa using hn) ok (by show s.len + 1 + ((fs.flatMap lineL).length : Nat) ≤ s.most; omega)
  have L2 : Live {({s with at_ := 7, len := s.len + 1} : RdSt) with word := [], at_ := 7, name := nm, field := s.field ++ fs, len := s.len + 1 + (fs.flatMap lineL).length} 7 b := ⟨h.err, rfl, h.asks, by rw [hf]; simpa using hn⟩
  have e3 := Eats.one L2 (by decide) (end_empty L2 rfl (by show s.len + 1 + ((fs.flatMap lineL).length : Nat) + 1 ≤ s.most; omega))
  refine ⟨nm, ?_⟩
  have E := (e1.app e2).app e3
  refine cast ?_ E
  congr 1
  simp only [hf, List.nil_append]
theorem eats_request (most : Int) (qm qt : ByteArray) (m : Int) (fs : List S67) (hm0 : bytesOf qm ≠ []) (hm : ∀ c ∈ bytesOf qm, isTok c = true) (ht0 : bytesOf qt ≠ []) (ht : ∀ c ∈ bytesOf qt, isVis c = true) (hv : m = 0 ∨ m = 1) (hn : fs.length ≤ 64) (ok : ∀ f ∈ fs, FineF f)
    (hl : ((headL (reqL qm qt m) fs).length : Int) ≤ most) : ∃ t, Eats (RdSt.new most true 0) (headL (reqL qm qt m) fs) t ∧ Live {t with field := []} 10 true ∧ t.most = most ∧ t.len = (headL (reqL qm qt m) fs).length ∧ t.qm = qm ∧ t.qt = qt ∧ t.qn = m ∧ t.field = fs := by
  have hlen : (headL (reqL qm qt m) fs).length = (bytesOf qm).length + 1 + (bytesOf qt).length + 1 + 8 + 2 + (fs.flatMap lineL).length + 1 := by simp [headL, reqL, verL]; omega
  rw [hlen] at hl ⊢
  have L0 : Live (RdSt.new most true 0) 0 true := ⟨rfl, rfl, rfl, Nat.zero_le _⟩
  have p1 := List.length_pos_iff.2 hm0
  have p2 := List.length_pos_iff.2 ht0
  have e1 := eats_run (by decide) _ goes_method (bytesOf qm) _ L0 (by simp only [RdSt.new]; omega) hm
  have L1 := L0.more (bytesOf qm)
  have s1 := end_method L1 (by simp only [RdSt.more, RdSt.new, List.nil_append]; omega) (by simp only [RdSt.more, RdSt.new]; omega)
  have e2 := Eats.one L1 (by decide) s1
  generalize hg1 : ({(RdSt.new most true 0).more (bytesOf qm) with word := [], at_ := 1, qm := strOfNums ((RdSt.new most true 0).more (bytesOf qm)).word, len := ((RdSt.new most true 0).more (bytesOf qm)).len + 1} : RdSt) = a1 at e2
  have L2 : Live a1 1 true := by rw [← hg1]; exact ⟨rfl, rfl, rfl, Nat.zero_le _⟩
  have q1 : a1.word = [] ∧ a1.len = (bytesOf qm).length + 1 ∧ a1.most = most ∧ a1.qm = qm ∧ a1.field = [] := by rw [← hg1]; simp [RdSt.more, RdSt.new, strOf_bytes]
  obtain ⟨w1, l1, m1, k1, f1⟩ := q1
  have e3 := eats_run (by decide) _ goes_target (bytesOf qt) a1 L2 (by rw [l1, m1]; omega) ht
  have L3 := L2.more (bytesOf qt)
  have s3 := end_target L3 (by simp only [RdSt.more, w1, List.nil_append]; omega) (by simp only [RdSt.more, l1, m1]; omega)
  have e4 := Eats.one L3 (by decide) s3
  generalize hg2 : ({a1.more (bytesOf qt) with word := [], at_ := 2, qt := strOfNums (a1.more (bytesOf qt)).word, len := (a1.more (bytesOf qt)).len + 1} : RdSt) = a2 at e4
  have L4 : Live a2 2 true := by rw [← hg2]; exact ⟨L2.err, rfl, L2.asks, L2.field⟩
  have q2 : a2.word = [] ∧ a2.len = (bytesOf qm).length + 1 + (bytesOf qt).length + 1 ∧ a2.most = most ∧ a2.qm = qm ∧ a2.qt = qt ∧ a2.field = [] := by rw [← hg2]; simp [RdSt.more, strOf_bytes, w1, l1, m1, k1, f1]
  obtain ⟨w2, l2, m2, k2, t2, f2⟩ := q2
  have e5 := eats_ver (by decide) goes_ver a2 L4 w2 (by rw [l2, m2]; omega) m hv
  have L5 := L4.more (verL m)
  have s5 := end_ver L5 (by simp only [RdSt.more, w2, verL, List.nil_append, List.length_cons, List.length_nil]) (by simp only [RdSt.more, l2, m2, verL, List.length_cons, List.length_nil]; omega)
  have e6 := Eats.one L5 (by decide) s5
  generalize hg3 : ({a2.more (verL m) with word := [], at_ := 6, qn := minorOf (a2.more (verL m)).word, len := (a2.more (verL m)).len + 1} : RdSt) = a3 at e6
  have L6 : Live a3 6 true := by rw [← hg3]; exact ⟨L4.err, rfl, L4.asks, L4.field⟩
  have q3 : a3.word = [] ∧ a3.len = (bytesOf qm).length + 1 + (bytesOf qt).length + 1 + 8 + 1 ∧ a3.most = most ∧ a3.qm = qm ∧ a3.qt = qt ∧ a3.qn = m ∧ a3.field = [] := by
    rw [← hg3]
    refine ⟨rfl, ?_, m2, k2, t2, ?_, f2⟩
    · simp only [RdSt.more, l2, verL, List.length_cons, List.length_nil]; omega
    · simp only [RdSt.more, w2, List.nil_append]; exact minor_ver m hv
  obtain ⟨w3, l3, m3, k3, t3, n3, f3⟩ := q3
  obtain ⟨nm, e7⟩ := eats_rest L6 w3 f3 fs hn ok (by rw [l3, m3]; omega)
  have E := (((((e1.app e2).app e3).app e4).app e5).app e6).app e7
  refine ⟨{a3 with word := [], at_ := 10, name := nm, field := fs, len := a3.len + 1 + (fs.flatMap lineL).length + 1}, cast ?_ E, ⟨L6.err, rfl, L6.asks, by simp⟩, m3, ?_, k3, t3, n3, rfl⟩
  · congr 1
    simp [headL, reqL]
  · show a3.len + 1 + ((fs.flatMap lineL).length : Nat) + 1 = _
    rw [l3]
    push_cast
    omega
/-- The bytes of a response's first line. -/
def statL (m : Int) (cw : List Int) (pr : ByteArray) : List Int := verL m ++ [32] ++ cw ++ [32] ++ bytesOf pr
theorem eats_code (s : RdSt) (h : Live s 4 false) (hw : s.word = []) (a b c : Int) (hl : s.len + 3 ≤ s.most) (ha : 49 ≤ a ∧ a ≤ 53) (hb : digB b = true) (hc : digB c = true) : Eats s [a, b, c] (s.more [a, b, c]) := by
  have one : ∀ (l : List Int) (c : Int), (l.length : Int) + 1 ≤ 3 → (digB c && (decide (0 < l.length) || (decide (49 ≤ c) && decide (c ≤ 53)))) = true → Eats s l (s.more l) → Eats s (l ++ [c]) (s.more (l ++ [c])) := by
    intro l c hlen hv e
    have L := h.more l
    have g := goes_code (s.more l) c L (by simp only [RdSt.more, hw, List.nil_append]; omega) (by simp only [RdSt.more, hw, List.nil_append]; exact hv) (by show s.len + (l.length : Int) + 1 ≤ s.most; omega)
    refine e.app (.cons L.err (by rw [L.at_]; decide) ?_)
    rw [g, more_more]
    exact .nil _
  have e0 : Eats s [] (s.more []) := by rw [more_nil]; exact .nil s
  have da : digB a = true := by unfold digB; rw [if_pos (by omega)]; exact decide_eq_true (by omega)
  have e1 := one [] a (by decide) (by rw [da, decide_eq_true ha.1, decide_eq_true ha.2]; rfl) e0
  have e2 := one [a] b (by simp) (by rw [hb]; rfl) e1
  exact one [a, b] c (by simp) (by rw [hc]; rfl) e2
theorem eats_response (most : Int) (m a b c : Int) (pr : ByteArray) (fs : List S67) (ha : 49 ≤ a ∧ a ≤ 53) (hb : digB b = true) (hc : digB c = true) (hr : ∀ c ∈ bytesOf pr, isVal c = true) (hv : m = 0 ∨ m = 1) (hn : fs.length ≤ 64) (ok : ∀ f ∈ fs, FineF f)
    (hl : ((headL (statL m [a, b, c] pr) fs).length : Int) ≤ most) : ∃ t, Eats (RdSt.new most false 3) (headL (statL m [a, b, c] pr) fs) t ∧ Live {t with field := []} 10 false ∧ t.most = most ∧ t.len = (headL (statL m [a, b, c] pr) fs).length ∧ t.ps = decOf [a, b, c] ∧ t.pr = pr ∧ t.pn = m ∧ t.field = fs := by
  have hlen : (headL (statL m [a, b, c] pr) fs).length = 8 + 1 + 3 + 1 + (bytesOf pr).length + 2 + (fs.flatMap lineL).length + 1 := by simp [headL, statL, verL]; omega
  rw [hlen] at hl ⊢
  have L0 : Live (RdSt.new most false 3) 3 false := ⟨rfl, rfl, rfl, Nat.zero_le _⟩
  have e1 := eats_ver (by decide) goes_vers _ L0 rfl (by simp only [RdSt.new]; omega) m hv
  have L1 := L0.more (verL m)
  have s1 := end_vers L1 (by simp only [RdSt.more, RdSt.new, verL, List.nil_append, List.length_cons, List.length_nil]) (by simp only [RdSt.more, RdSt.new, verL, List.length_cons, List.length_nil]; omega)
  have e2 := Eats.one L1 (by decide) s1
  generalize hg1 : ({(RdSt.new most false 3).more (verL m) with word := [], at_ := 4, pn := minorOf ((RdSt.new most false 3).more (verL m)).word, len := ((RdSt.new most false 3).more (verL m)).len + 1} : RdSt) = a1 at e2
  have L2 : Live a1 4 false := by rw [← hg1]; exact ⟨rfl, rfl, rfl, Nat.zero_le _⟩
  have q1 : a1.word = [] ∧ a1.len = 8 + 1 ∧ a1.most = most ∧ a1.pn = m ∧ a1.field = [] := by rw [← hg1]; exact ⟨rfl, by simp [RdSt.more, RdSt.new, verL], rfl, by simp only [RdSt.more, RdSt.new, List.nil_append]; exact minor_ver m hv, rfl⟩
  obtain ⟨w1, l1, m1, k1, f1⟩ := q1
  have e3 := eats_code a1 L2 w1 a b c (by rw [l1, m1]; omega) ha hb hc
  have L3 := L2.more [a, b, c]
  have s3 := end_code L3 (by simp only [RdSt.more, w1, List.nil_append, List.length_cons, List.length_nil]) (by simp only [RdSt.more, l1, m1, List.length_cons, List.length_nil]; omega)
  have e4 := Eats.one L3 (by decide) s3
  generalize hg2 : ({a1.more [a, b, c] with word := [], at_ := 5, ps := decOf (a1.more [a, b, c]).word, len := (a1.more [a, b, c]).len + 1} : RdSt) = a2 at e4
  have L4 : Live a2 5 false := by rw [← hg2]; exact ⟨L2.err, rfl, L2.asks, L2.field⟩
  have q2 : a2.word = [] ∧ a2.len = 8 + 1 + 3 + 1 ∧ a2.most = most ∧ a2.pn = m ∧ a2.ps = decOf [a, b, c] ∧ a2.field = [] := by rw [← hg2]; exact ⟨rfl, by simp [RdSt.more, l1], m1, k1, by simp [RdSt.more, w1], f1⟩
  obtain ⟨w2, l2, m2, k2, t2, f2⟩ := q2
  have e5 := eats_run (by decide) _ goes_reason (bytesOf pr) a2 L4 (by rw [l2, m2]; omega) hr
  have L5 := L4.more (bytesOf pr)
  have s5 := end_reason L5 (by simp only [RdSt.more, l2, m2]; omega)
  have e6 := Eats.one L5 (by decide) s5
  generalize hg3 : ({a2.more (bytesOf pr) with word := [], at_ := 6, pr := strOfNums (a2.more (bytesOf pr)).word, len := (a2.more (bytesOf pr)).len + 1} : RdSt) = a3 at e6
  have L6 : Live a3 6 false := by rw [← hg3]; exact ⟨L4.err, rfl, L4.asks, L4.field⟩
  have q3 : a3.word = [] ∧ a3.len = 8 + 1 + 3 + 1 + (bytesOf pr).length + 1 ∧ a3.most = most ∧ a3.pn = m ∧ a3.ps = decOf [a, b, c] ∧ a3.pr = pr ∧ a3.field = [] := by
    rw [← hg3]
    refine ⟨rfl, ?_, m2, k2, t2, ?_, f2⟩
    · simp only [RdSt.more, l2]
    · simp only [RdSt.more, w2, List.nil_append, strOf_bytes]
  obtain ⟨w3, l3, m3, k3, t3, n3, f3⟩ := q3
  obtain ⟨nm, e7⟩ := eats_rest L6 w3 f3 fs hn ok (by rw [l3, m3]; omega)
  have E := (((((e1.app e2).app e3).app e4).app e5).app e6).app e7
  refine ⟨{a3 with word := [], at_ := 10, name := nm, field := fs, len := a3.len + 1 + (fs.flatMap lineL).length + 1}, cast ?_ E, ⟨L6.err, rfl, L6.asks, by simp⟩, m3, ?_, t3, n3, k3, rfl⟩
  · congr 1
    simp [headL, statL]
  · show a3.len + 1 + ((fs.flatMap lineL).length : Nat) + 1 = _
    rw [l3]
    push_cast
    omega
/-- The last byte, where it may come. -/
theorem feed_whole {s t : RdSt} {l : List Int} {b : Bool} (e : Eats s l t) (h : Live {t with field := []} 10 b) (hf : t.field.length ≤ 64) (hl : t.len + 1 ≤ t.most) (m : List Int) : s.feed (l ++ 10 :: m) = ({t with at_ := 11, len := t.len + 1}, l.length + 1) := by
  have L : Live t 10 b := ⟨h.err, h.at_, h.asks, hf⟩
  have E := e.app (Eats.one L (by decide) (end_head L hl))
  have := E.stop (.inr rfl) m
  simpa using this
/-- The last byte, where it is one too many. -/
theorem feed_over {s t : RdSt} {l : List Int} {b : Bool} (e : Eats s l t) (h : Live {t with field := []} 10 b) (hl : t.len + 1 > t.most) (m : List Int) : (s.feed (l ++ 10 :: m)).1.err = some 22 := by
  have he : t.err = none := h.err
  have ha : t.at_ = 10 := h.at_
  have E := e.app (.cons he (by rw [ha]; decide) (.nil (t.step 10)))
  have hs : (t.step 10).err = some 22 := by
    unfold RdSt.step RdSt.byte RdSt.fldLine judge
    simp [ha, hl]
  have := E.stop (.inl (by rw [hs]; simp)) m
  rw [List.append_assoc, List.singleton_append] at this
  rw [this]
  exact hs

end Go.Proofs.YtmmlacbcolfngaaDoor.Q
namespace Go.Proofs.YtmmlacbcolfngaaDoor.Q
open Go.RowKit Go.Proofs.YtmmlacbcolfngaaDoorW.PrintWords Go.Proofs.YtmmlacbcolfngaaDoorW.PrintLast Go.Proofs.YtmmlacbcolfngaaDoorW.PrintMore
set_option linter.unusedVariables false
set_option linter.unusedSimpArgs false
theorem judge_none {s : RdSt} {ok : Bool} {er : Int} (h : judge s ok er = none) : ok = true ∧ s.len ≤ s.most := by
  unfold judge at h
  split at h
  · cases h
  · split at h
    · exact ⟨by assumption, by omega⟩
    · cases h
theorem judge_no {s : RdSt} {er : Int} (h : s.len ≤ s.most) : judge s false er = some er := by
  unfold judge
  rw [if_neg (by omega), if_neg (by decide)]
theorem step_len (s : RdSt) (c : Int) : (s.step c).len = s.len + 1 ∧ (s.step c).most = s.most ∧ (s.step c).asks = s.asks := by
  have h1 : ∀ t : RdSt, (t.reqLine c).1.len = t.len ∧ (t.reqLine c).1.most = t.most ∧ (t.reqLine c).1.asks = t.asks := by
    intro t
    unfold RdSt.reqLine
    (repeat' split) <;> exact ⟨rfl, rfl, rfl⟩
  have h2 : ∀ t : RdSt, (t.statLine c).1.len = t.len ∧ (t.statLine c).1.most = t.most ∧ (t.statLine c).1.asks = t.asks := by
    intro t
    unfold RdSt.statLine
    (repeat' split) <;> exact ⟨rfl, rfl, rfl⟩
  have h3 : ∀ t : RdSt, (t.fldLine c).1.len = t.len ∧ (t.fldLine c).1.most = t.most ∧ (t.fldLine c).1.asks = t.asks := by
    intro t
    unfold RdSt.fldLine
    (repeat' split) <;> exact ⟨rfl, rfl, rfl⟩
  have h4 : ∀ t : RdSt, (t.byte c).1.len = t.len + 1 ∧ (t.byte c).1.most = t.most ∧ (t.byte c).1.asks = t.asks := by
    intro t
    unfold RdSt.byte
    split
    · exact ⟨rfl, rfl, rfl⟩
    · split
      · exact h3 _
      · split
        · exact h1 _
        · exact h2 _
  exact h4 s
theorem Eats.len {s t : RdSt} {l : List Int} (h : Eats s l t) : t.len = s.len + l.length ∧ t.most = s.most ∧ t.asks = s.asks := by
  induction h with
  | nil => simp
  | @cons s t c l h1 h2 h3 ih =>
    obtain ⟨a, b, d⟩ := step_len s c
    refine ⟨?_, ih.2.1.trans b, ih.2.2.trans d⟩
    rw [ih.1, a, List.length_cons]
    push_cast
    omega
/-- What is left of a whole request's head: behind a line's end stands its byte. -/
def Inv (s : RdSt) (d : Int) : Prop :=
  s.asks = true ∧ (s.at_ = 0 ∨ s.at_ = 1 ∨ s.at_ = 2 ∨ s.at_ = 8 ∨ s.at_ = 11 ∨ (s.at_ = 7 ∧ (s.word = [] → d = 10)) ∨ ((s.at_ = 6 ∨ s.at_ = 9 ∨ s.at_ = 10) ∧ d = 13))
theorem inv_step (s : RdSt) (c d : Int) (h : Inv s d) (h11 : s.at_ ≠ 11) (he : (s.step c).err = none) : Inv (s.step c) c := by
  obtain ⟨ha, h⟩ := h
  refine ⟨(step_len s c).2.2.trans ha, ?_⟩
  unfold RdSt.step RdSt.byte RdSt.fldLine RdSt.reqLine at he ⊢
  rcases h with h | h | h | h | h | ⟨h, hd⟩ | ⟨h | h | h, hd⟩
  · simp only [h, ha] at he ⊢
    simp only [Int.reduceEq, if_false, if_true, ge_iff_le, Int.reduceLE] at he ⊢
    by_cases hc : c = 32 ∧ 0 < s.word.length
    · simp [hc, RdSt.taken]
    · simp [hc, RdSt.push, h]
  · simp only [h, ha] at he ⊢
    simp only [Int.reduceEq, if_false, if_true, ge_iff_le, Int.reduceLE] at he ⊢
    by_cases hc : c = 32 ∧ 0 < s.word.length
    · simp [hc, RdSt.taken]
    · simp [hc, RdSt.push, h]
  · simp only [h, ha] at he ⊢
    simp only [Int.reduceEq, if_false, if_true, ge_iff_le, Int.reduceLE] at he ⊢
    by_cases hc : c = 13 ∧ s.word.length = 8
    · simp [hc, RdSt.taken]
    · simp [hc, RdSt.push, h]
  · simp only [h, ha] at he ⊢
    simp only [Int.reduceEq, if_false, if_true, ge_iff_le, Int.reduceLE] at he ⊢
    by_cases hc : c = 13
    · simp [hc]
    · simp [hc, RdSt.push, h]
  · exact absurd h h11
  · simp only [h, ha] at he ⊢
    simp only [Int.reduceEq, if_false, if_true, ge_iff_le, Int.reduceLE] at he ⊢
    by_cases hc : c = 13 ∧ s.word.length = 0
    · simp [hc]
    · by_cases hm : c = 58 ∧ 0 < s.word.length
      · rw [if_neg hc, if_pos hm]
        exact .inr (.inr (.inr (.inl rfl)))
      · rw [if_neg hc, if_neg hm]
        exact .inr (.inr (.inr (.inr (.inr (.inl ⟨rfl, fun q => by simp [RdSt.push] at q⟩)))))
  · simp only [h, ha] at he ⊢
    simp only [Int.reduceEq, if_false, if_true, ge_iff_le, Int.reduceLE] at he ⊢
    have := (judge_none he).1
    refine .inr (.inr (.inr (.inr (.inr (.inl ⟨by first | exact rfl | simp, fun _ => by simpa using this⟩)))))
  · simp only [h, ha] at he ⊢
    simp only [Int.reduceEq, if_false, if_true, ge_iff_le, Int.reduceLE] at he ⊢
    have := (judge_none he).1
    refine .inr (.inr (.inr (.inr (.inr (.inl ⟨by first | exact rfl | simp, fun _ => by simpa using this⟩)))))
  · simp only [h, ha] at he ⊢
    simp only [Int.reduceEq, if_false, if_true, ge_iff_le, Int.reduceLE] at he ⊢
    simp
theorem Eats.live {s t : RdSt} {c : Int} {l : List Int} (h : Eats s (c :: l) t) (ht : t.err = none) : (s.step c).err = none := by
  cases h with
  | cons h1 h2 h3 =>
    cases h3 with
    | nil => exact ht
    | cons a b d => exact a
theorem Eats.inv {s t : RdSt} {l : List Int} (h : Eats s l t) : ∀ d, Inv s d → t.err = none → Inv t (l.getLastD d) := by
  induction h with
  | nil => exact fun d h _ => h
  | @cons s t c l h1 h2 h3 ih =>
    intro d hd ht
    have h0 := (Eats.cons h1 h2 h3).live ht
    have := ih c (inv_step s c d hd h2 h0) ht
    rw [List.getLastD_cons]
    exact this
theorem ver_not : ∀ (w : List Int) (c : Int), (c = 13 ∨ c = 10) → isVersion w c = false := by
  intro w c hc
  unfold isVersion
  split
  · rename_i h
    have : ∀ n : Fin 7, ∀ c : Fin 20, (c.val = 13 ∨ c.val = 10) → (((c.val : Nat) : Int) == bt ⟨#[72, 84, 84, 80, 47, 49, 46]⟩ (n.val : Int)) = false := by decide
    have k := this ⟨w.length, by omega⟩
    rcases hc with rfl | rfl
    · exact k 13 (.inl rfl)
    · exact k 10 (.inr rfl)
  · split
    · rcases hc with rfl | rfl <;> rfl
    · rfl
theorem ver_eight (w : List Int) (c : Int) (h : w.length = 8) : isVersion w c = false := by
  unfold isVersion
  rw [if_neg (by omega), if_neg (by omega)]
/-- A bare byte of a line's end spoils a head. -/
theorem bare (most : Int) (x : List Int) (y0 : Int) (y : List Int) (t : RdSt) (c : Int) (e : Eats (RdSt.new most true 0) (x ++ y0 :: y) t) (ht : t.err = none) (hc : c = 13 ∨ c = 10) (hx : x.getLastD 0 ≠ 13 ∧ x.getLastD 0 ≠ 10) (hy : y0 ≠ 13 ∧ y0 ≠ 10) (hl : (x.length : Int) + 2 ≤ most) :
    ∃ n, ((RdSt.new most true 0).feed (x ++ c :: y0 :: y)).1.err = some n ∧ (n = 20 ∨ n = 21) := by
  obtain ⟨u, e1, e2, e3⟩ := e.cut
  obtain ⟨u1, u2⟩ := e3 (by simp)
  have I := e1.inv 0 ⟨rfl, .inl rfl⟩ u1
  have h0 := e2.live ht
  obtain ⟨l1, l2, l3⟩ := e1.len
  have l1' : u.len = x.length := by rw [l1]; simp [RdSt.new]
  have l2' : u.most = most := l2
  have stop1 : ∀ n, (u.step c).err = some n → ((RdSt.new most true 0).feed (x ++ c :: y0 :: y)).1.err = some n := by
    intro n hn
    have := (e1.app (.cons u1 u2 (.nil (u.step c)))).stop (.inl (by rw [hn]; simp)) (y0 :: y)
    rw [List.append_assoc, List.singleton_append] at this
    rw [this]
    exact hn
  obtain ⟨ha, h⟩ := I
  have hp : ∀ (a : RdSt) (er : Int), a.len = u.len + 1 → a.most = u.most → judge a false er = some er := fun a er h1 h2 => judge_no (by rw [h1, h2, l1', l2']; omega)
  rcases h with h | h | h | h | h | ⟨h, hd⟩ | ⟨_, hd⟩
  · refine ⟨20, stop1 20 ?_, .inl rfl⟩
    unfold RdSt.step RdSt.byte RdSt.reqLine
    have hn : ¬ (c = 32 ∧ 0 < u.word.length) := by omega
    have hk : isTok c = false := by rcases hc with rfl | rfl <;> decide
    simp only [h, ha, Int.reduceEq, if_false, if_true, ge_iff_le, Int.reduceLE, if_neg hn, hk]
    exact hp _ _ rfl rfl
  · refine ⟨20, stop1 20 ?_, .inl rfl⟩
    unfold RdSt.step RdSt.byte RdSt.reqLine
    have hn : ¬ (c = 32 ∧ 0 < u.word.length) := by omega
    have hk : isVis c = false := by rcases hc with rfl | rfl <;> decide
    simp only [h, ha, Int.reduceEq, if_false, if_true, ge_iff_le, Int.reduceLE, if_neg hn, hk]
    exact hp _ _ rfl rfl
  · have h8 : u.word.length ≠ 8 := by
      intro h8
      unfold RdSt.step RdSt.byte RdSt.reqLine at h0
      have hn : ¬ (y0 = 13 ∧ u.word.length = 8) := fun q => hy.1 q.1
      simp only [h, ha, Int.reduceEq, if_false, if_true, ge_iff_le, Int.reduceLE, if_neg hn, ver_eight _ y0 h8] at h0
      have := (judge_none h0).1
      cases this
    refine ⟨20, stop1 20 ?_, .inl rfl⟩
    unfold RdSt.step RdSt.byte RdSt.reqLine
    have hn : ¬ (c = 13 ∧ u.word.length = 8) := fun q => h8 q.2
    simp only [h, ha, Int.reduceEq, if_false, if_true, ge_iff_le, Int.reduceLE, if_neg hn, ver_not _ c hc]
    exact hp _ _ rfl rfl
  · by_cases hcc : c = 13
    · have s1 : u.step c = {u with at_ := 9, len := u.len + 1, err := (u.step c).err} := by
        unfold RdSt.step RdSt.byte RdSt.fldLine
        simp only [h, ha, Int.reduceEq, if_false, if_true, ge_iff_le, Int.reduceLE, hcc]
      cases he : (u.step c).err with
      | some n =>
        exfalso
        unfold RdSt.step RdSt.byte RdSt.fldLine judge at he
        simp only [h, ha, Int.reduceEq, if_false, if_true, ge_iff_le, Int.reduceLE, hcc] at he
        rw [if_neg (by rw [l1', l2']; omega)] at he
        split at he
        · rename_i h64
          -- the fields' number stays, and the byte behind was taken well
          unfold RdSt.step RdSt.byte RdSt.fldLine judge at h0
          simp only [h, ha, Int.reduceEq, if_false, if_true, ge_iff_le, Int.reduceLE, if_neg hy.1, RdSt.push, if_pos h64] at h0
          split at h0
          · cases h0
          · split at h0 <;> cases h0
        · cases he
      | none =>
        rw [he] at s1
        have a9 : (u.step c).at_ = 9 := by rw [s1]
        have E := (e1.app (.cons u1 u2 (.nil (u.step c)))).app (.cons he (by rw [a9]; decide) (.nil ((u.step c).step y0)))
        have hk : ((u.step c).step y0).err = some 21 := by
          rw [s1]
          unfold RdSt.step RdSt.byte RdSt.fldLine
          simp only [Int.reduceEq, if_false, if_true, ge_iff_le, Int.reduceLE]
          rw [show (y0 == 10) = false by simpa using hy.2]
          exact judge_no (by show u.len + 1 + 1 ≤ u.most; rw [l1', l2']; omega)
        have := E.stop (.inl (by rw [hk]; simp)) y
        rw [List.append_assoc, List.append_assoc, List.singleton_append, List.singleton_append] at this
        refine ⟨21, ?_, .inr rfl⟩
        rw [this]
        exact hk
    · have h10 : c = 10 := by omega
      refine ⟨21, stop1 21 ?_, .inr rfl⟩
      unfold RdSt.step RdSt.byte RdSt.fldLine
      subst h10
      simp only [h, ha, Int.reduceEq, if_false, if_true, ge_iff_le, Int.reduceLE, show isVal 10 = false by decide]
      exact hp _ _ rfl rfl
  · exact absurd h u2
  · have hw : u.word ≠ [] := fun q => hx.2 (hd q)
    have hw' := List.length_pos_iff.2 hw
    refine ⟨21, stop1 21 ?_, .inr rfl⟩
    unfold RdSt.step RdSt.byte RdSt.fldLine
    have hn : ¬ (c = 13 ∧ u.word.length = 0) := by omega
    have hn2 : ¬ (c = 58 ∧ 0 < u.word.length) := by omega
    have hk : isTok c = false := by rcases hc with rfl | rfl <;> decide
    simp only [h, ha, Int.reduceEq, if_false, if_true, ge_iff_le, Int.reduceLE, if_neg hn, if_neg hn2, hk]
    exact hp _ _ rfl rfl
  · exact absurd hd hx.1

end Go.Proofs.YtmmlacbcolfngaaDoor.Q
namespace Go.Proofs.YtmmlacbcolfngaaDoor.Q
open Go.RowKit Go.Proofs.YtmmlacbcolfngaaDoorW.PrintWords Go.Proofs.YtmmlacbcolfngaaDoorW.PrintLast Go.Proofs.YtmmlacbcolfngaaDoorW.PrintMore
set_option linter.unusedVariables false
set_option linter.unusedSimpArgs false
def kindK (kind : Int) (c : Int) : Bool := if kind = 1 then isVis c else if kind = 2 then isVal c else isTok c
theorem rvis_f (c : Int) : turnstileref01_Visible.f c = some (isVis c) := by
  unfold turnstileref01_Visible.f isVis
  by_cases h : c ≥ 33
  · rw [if_pos h, if_pos (by omega)]
    congr 1
    rw [decide_eq_decide]
    omega
  · rw [if_neg h, if_neg (by omega)]
theorem rval_f (c : Int) (h1 : c ≤ 255) : turnstileref01_Value.f c = some (isVal c) := by
  unfold turnstileref01_Value.f isVal
  by_cases h9 : c = 9
  · rw [if_pos h9, if_pos h9]
  · rw [if_neg h9, if_neg h9]
    by_cases h : c ≥ 32
    · rw [if_pos h, if_pos h]
      by_cases h2 : c ≤ 126
      · rw [if_pos h2]
        have : c ≠ 127 := by omega
        simp [this]
      · rw [if_neg h2]
        by_cases h3 : c = 127
        · subst h3; rfl
        · rw [decide_eq_true (by omega)]
          simp [h3]
    · rw [if_neg h, if_neg h, decide_eq_false (by omega)]
def allB (kind : Int) (l : List UInt8) : Bool := l.all fun b => kindK kind (b.toNat : Int)
theorem all_l0 (s : ByteArray) (kind : Int) (hs : s.size ≤ 9223372036854775800) : ∀ (l : List UInt8) (i : Int), 0 ≤ i → i ≤ s.size → s.data.toList.drop i.toNat = l → Ev (fun k => turnstileref09_all.l0 k s kind i) (allB kind l)
  | [], i, h0, h1, h => by
    have e := scan_nil h0 h1 h
    refine Ev.step (fun k => by rw [turnstileref09_all.l0]) ?_
    simp only [if_neg (show ¬ i < (s.size : Int) by omega)]
    exact Ev.now _
  | b :: l, i, h0, h1, h => by
    obtain ⟨h2, h3, h4⟩ := scan_cons h0 h
    have hb := byte_range b
    have ih := all_l0 s kind hs l (i + 1) (by omega) (by omega) h4
    refine Ev.step (fun k => by rw [turnstileref09_all.l0]) ?_
    simp only [if_pos h2, if_pos h0, h3, rvis_f, rval_f _ hb.2, Option.bind_some]
    rw [wrap_in (n := i + 1) (by omega)]
    refine Ev.bind (rtok_ev _ hb.1 hb.2) ?_
    have e : allB kind (b :: l) = (kindK kind (b.toNat : Int) && allB kind l) := rfl
    rw [e]
    unfold kindK
    by_cases k1 : kind = 1
    · simp only [if_pos k1]
      cases isVis (b.toNat : Int)
      · simpa using Ev.now false
      · simpa using ih
    · by_cases k2 : kind = 2
      · simp only [if_neg k1, if_pos k2]
        cases isVal (b.toNat : Int)
        · simpa using Ev.now false
        · simpa using ih
      · simp only [if_neg k1, if_neg k2]
        cases isTok (b.toNat : Int)
        · simpa using Ev.now false
        · simpa using ih
theorem all_ev (s : ByteArray) (kind : Int) (hs : s.size ≤ 9223372036854775800) : Ev (fun k => turnstileref09_all.f k s kind) (allB kind s.data.toList) := all_l0 s kind hs _ 0 (by omega) (by omega) rfl
theorem allB_mem {kind : Int} {s : ByteArray} (h : allB kind s.data.toList = true) : ∀ c ∈ bytesOf s, kindK kind c = true := by
  intro c hc
  obtain ⟨b, hb, rfl⟩ := List.mem_map.1 hc
  exact List.all_eq_true.1 h b hb
theorem tokL_mem {s : ByteArray} (h : tokL s.data.toList = true) : ∀ c ∈ bytesOf s, isTok c = true := by
  intro c hc
  obtain ⟨b, hb, rfl⟩ := List.mem_map.1 hc
  exact List.all_eq_true.1 h b hb
theorem bytes_ne {s : ByteArray} (h : s.size ≠ 0) : bytesOf s ≠ [] := fun e => h (by rw [← bytesOf_length, e]; rfl)
def fineF (f : S67) : Bool := tokL f.f0.data.toList && decide (f.f0.size ≠ 0) && allB 2 f.f1.data.toList && decide (trm f.f1.data.toList = f.f1.data.toList)
def fineB (l : List S67) : Bool := decide (l.length ≤ 64) && l.all fineF
theorem fineF_ok {f : S67} (h : fineF f = true) : FineF f := by
  unfold fineF at h
  simp only [Bool.and_eq_true, decide_eq_true_eq] at h
  obtain ⟨⟨⟨h1, h2⟩, h3⟩, h4⟩ := h
  exact ⟨tokL_mem h1, bytes_ne h2, fun c hc => by simpa [kindK] using allB_mem h3 c hc, h4⟩
theorem fine_l0 (xs : List S67) (hxs : xs.length ≤ 4398046511104) (hok : ∀ f ∈ xs, f.f0.size ≤ 1048576 ∧ f.f1.size ≤ 1048576) : ∀ (l : List S67) (i : Int), 0 ≤ i → xs.drop i.toNat = l → i ≤ xs.length → Ev (fun k => turnstileref09_fine.l0 k xs i) (l.all fineF)
  | [], i, h0, h, hi => by
    have e := lscan_nil h0 hi h
    refine Ev.step (fun k => by rw [turnstileref09_fine.l0]) ?_
    simp only [if_neg (show ¬ i < (xs.length : Int) by omega)]
    exact Ev.now _
  | f :: l, i, h0, h, hi => by
    obtain ⟨h2, h3, h4⟩ := lscan_cons h0 h
    have hf : rd_T67 xs i = f := h3 _
    have hm := hok f (List.mem_of_mem_drop (by rw [h]; exact List.mem_cons_self))
    have ih := fine_l0 xs hxs hok l (i + 1) (by omega) h4 (by omega)
    refine Ev.step (fun k => by rw [turnstileref09_fine.l0]) ?_
    simp only [if_pos h2, if_pos h0, hf]
    rw [wrap_in (n := i + 1) (by omega)]
    refine Ev.bind (ristok_ev _ (by omega)) ?_
    rw [List.all_cons]
    unfold fineF
    cases (tokL f.f0.data.toList && decide (f.f0.size ≠ 0))
    · simpa using Ev.now false
    · simp only [if_true, Bool.true_and]
      refine Ev.bind (all_ev _ 2 (by omega)) ?_
      cases allB 2 f.f1.data.toList
      · simpa using Ev.now false
      · simp only [if_true, Bool.true_and]
        refine Ev.bind (rtrim_ev _ (by omega)) ?_
        by_cases ht : trm f.f1.data.toList = f.f1.data.toList
        · simp only [ba_toList, ht, if_true, decide_true, Bool.true_and]
          exact ih
        · simp only [ba_toList, ht, if_false, decide_false, Bool.false_and]
          exact Ev.now _
theorem fine_ev (xs : List S67) (hxs : xs.length ≤ 4398046511104) (hok : ∀ f ∈ xs, f.f0.size ≤ 1048576 ∧ f.f1.size ≤ 1048576) : Ev (fun k => turnstileref09_fine.f k xs) (fineB xs) := by
  unfold turnstileref09_fine.f fineB
  by_cases h : (xs.length : Int) > 64
  · simp only [if_pos h]
    rw [decide_eq_false (by omega), Bool.false_and]
    exact Ev.now _
  · simp only [if_neg h]
    rw [decide_eq_true (by omega), Bool.true_and]
    exact fine_l0 xs hxs hok xs 0 (by omega) rfl (by omega)
theorem line_bytes (f : S67) : bytesOf (turnstileref09_head_line f) = lineL f := by
  unfold turnstileref09_head_line lineL
  rw [bytesOf_app, bytesOf_app, bytesOf_app]
  rfl
theorem out_bytes (a : ByteArray) (l : List S67) : turnstileref09_head_out a l = headL (bytesOf a) l ++ [10] := by
  have key : ∀ (l : List S67) (acc : List Int), l.foldl (fun a f => a ++ bytesOf (turnstileref09_head_line f)) acc = acc ++ l.flatMap lineL := by
    intro l
    induction l with
    | nil => intro acc; simp
    | cons f l ih => intro acc; rw [List.foldl_cons, ih, line_bytes, List.flatMap_cons, List.append_assoc]
  unfold turnstileref09_head_out turnstileref09_head_acc headL
  rw [key, bytesOf_app, show bytesOf (⟨#[13, 10]⟩ : ByteArray) = [13, 10] from rfl]
  simp
theorem lines_len (l : List S67) (hok : ∀ f ∈ l, f.f0.size ≤ 1048576 ∧ f.f1.size ≤ 1048576) : (l.flatMap lineL).length ≤ l.length * 2097156 := by
  induction l with
  | nil => simp
  | cons f l ih =>
    have h1 := hok f List.mem_cons_self
    have h2 := ih (fun g hg => hok g (List.mem_cons_of_mem _ hg))
    have h3 : (lineL f).length = f.f0.size + 2 + f.f1.size + 2 := by
      unfold lineL
      simp only [List.length_append, bytesOf_length, List.length_cons, List.length_nil]
    rw [List.flatMap_cons, List.length_append, h3, List.length_cons]
    omega
theorem rhead_f (a : ByteArray) (l : List S67) (ha : a.size ≤ 1000000000) (hn : l.length ≤ 64) (hok : ∀ f ∈ l, f.f0.size ≤ 1048576 ∧ f.f1.size ≤ 1048576) :
    turnstileref09_head.f a l = some (headL (bytesOf a) l ++ [10], decide (((headL (bytesOf a) l ++ [10]).length : Int) ≤ 65536)) := by
  unfold turnstileref09_head.f
  have h1 := lines_len l hok
  have h2 : (headL (bytesOf a) l ++ [10]).length = a.size + 2 + (l.flatMap lineL).length + 1 + 1 := by simp [headL, bytesOf_length]; omega
  rw [out_bytes]
  rw [if_pos ⟨ha, fun f hf => by have := hok f hf; omega, by omega, by omega⟩]
/-- What a request's head is as bytes. -/
def wrOk (qm qt : ByteArray) (m : Int) (l : List S67) : Bool := tokL qm.data.toList && decide (qm.size ≠ 0) && decide (qt.size ≠ 0) && allB 1 qt.data.toList && decide (0 ≤ m) && decide (m ≤ 1) && fineB l
def textS (a : Int) : List UInt8 := if a < 10 then [UInt8.ofNat (48 + a.toNat)] else [UInt8.ofNat (48 + a.toNat / 100), UInt8.ofNat (48 + a.toNat / 10 % 10), UInt8.ofNat (48 + a.toNat % 10)]
theorem text_all : ∀ n : Fin 600, (n.val < 10 ∨ 100 ≤ n.val) → turnstileref01_Text.f 20 ((n.val : Nat) : Int) = some (⟨(textS ((n.val : Nat) : Int)).toArray⟩ : ByteArray) := by decide +kernel
theorem rtext_s (a : Int) (h : 0 ≤ a ∧ a < 10 ∨ 100 ≤ a ∧ a ≤ 599) : Ev (fun k => turnstileref01_Text.f k a) (⟨(textS a).toArray⟩ : ByteArray) := by
  have := text_all ⟨a.toNat, by omega⟩ (by simp only; omega)
  simp only [show ((a.toNat : Nat) : Int) = a by omega] at this
  exact Ev.of (fun k => turnstileref01_Text.mono _ _) (k := 20) this
theorem text_one (m : Int) (h : m = 0 ∨ m = 1) : (⟨(textS m).toArray⟩ : ByteArray).size = 1 ∧ bytesOf (⟨(textS m).toArray⟩ : ByteArray) = [48 + m] := by
  rcases h with rfl | rfl <;> exact ⟨rfl, rfl⟩
theorem size_lit8 : (⟨#[32, 72, 84, 84, 80, 47, 49, 46]⟩ : ByteArray).size = 8 := rfl
theorem written_no (k : Nat) (qm qt : ByteArray) (m : Int) (l : List S67) : turnstileref09_Written.j0 (k + 1) true qm qt m l = some ([], false) := by
  rw [turnstileref09_Written.j0, if_pos rfl]
theorem written_ev (qm qt : ByteArray) (m : Int) (l : List S67) (hqm : qm.size ≤ 1048576) (hqt : qt.size ≤ 1048576) (hl : l.length ≤ 1048576) (hok : ∀ f ∈ l, f.f0.size ≤ 1048576 ∧ f.f1.size ≤ 1048576) :
    Ev (fun k => turnstileref09_Written.f k qm qt m l) (if wrOk qm qt m l = true then (headL (reqL qm qt m) l ++ [10], decide (((headL (reqL qm qt m) l ++ [10]).length : Int) ≤ 65536)) else ([], false)) := by
  have no : Ev (fun k => turnstileref09_Written.j0 k true qm qt m l) (([] : List Int), false) := Ev.step (fun k => written_no k qm qt m l) (Ev.now _)
  unfold turnstileref09_Written.f wrOk
  refine Ev.bind (ristok_ev _ (by omega)) ?_
  cases (tokL qm.data.toList && decide (qm.size ≠ 0))
  · simpa using no
  · simp only [if_true, Bool.true_and]
    by_cases z : qt.size = 0
    · have z' : qt.toList = [] := by rw [ba_toList]; exact List.eq_nil_of_length_eq_zero (by rw [ba_len]; exact z)
      simp only [if_pos z']
      simpa [z] using no
    · have z' : ¬ qt.toList = [] := fun e => z (by rw [← ba_len, ← ba_toList, e]; rfl)
      simp only [if_neg z', decide_eq_true (show qt.size ≠ 0 from z), Bool.true_and]
      refine Ev.bind (all_ev _ 1 (by omega)) ?_
      cases allB 1 qt.data.toList
      · simpa using no
      · simp only [if_true, Bool.true_and]
        by_cases m0 : m < 0
        · simp only [if_pos m0]
          rw [decide_eq_false (show ¬ 0 ≤ m by omega)]
          simpa using no
        · by_cases m1 : m > 1
          · simp only [if_neg m0, if_pos m1]
            rw [decide_eq_false (show ¬ m ≤ 1 by omega)]
            simpa using no
          · simp only [if_neg m0, if_neg m1]
            rw [decide_eq_true (show 0 ≤ m by omega), decide_eq_true (show m ≤ 1 by omega)]
            refine Ev.bind (fine_ev l (by omega) hok) ?_
            cases hf : fineB l
            · simpa using no
            · have h64 : l.length ≤ 64 := by
                unfold fineB at hf
                simp only [Bool.and_eq_true, decide_eq_true_eq] at hf
                exact hf.1
              obtain ⟨t1, t2⟩ := text_one m (by omega)
              refine Ev.step (fun k => by rw [turnstileref09_Written.j0]) ?_
              have s1 : (⟨#[32]⟩ : ByteArray).size = 1 := rfl
              have s2 := size_lit8
              simp only [Bool.not_true, Bool.false_eq_true, if_false, Bool.true_and, if_true]
              simp only [ByteArray.size_append, s1, s2]
              simp only [if_pos (show qm.size + 1 ≤ 9223372036854775807 by omega), if_pos (show qm.size + 1 + qt.size ≤ 9223372036854775807 by omega), if_pos (show qm.size + 1 + qt.size + 8 ≤ 9223372036854775807 by omega)]
              refine Ev.bind (rtext_s m (by omega)) ?_
              simp only [t1, if_pos (show qm.size + 1 + qt.size + 8 + 1 ≤ 9223372036854775807 by omega)]
              rw [rhead_f _ _ (by simp only [ByteArray.size_append, s1, s2, t1]; omega) h64 hok]
              have e : bytesOf (qm ++ (⟨#[32]⟩ : ByteArray) ++ qt ++ (⟨#[32, 72, 84, 84, 80, 47, 49, 46]⟩ : ByteArray) ++ (⟨(textS m).toArray⟩ : ByteArray)) = reqL qm qt m := by
                rw [bytesOf_app, bytesOf_app, bytesOf_app, bytesOf_app, t2, show bytesOf (⟨#[32]⟩ : ByteArray) = [32] from rfl, show bytesOf (⟨#[32, 72, 84, 84, 80, 47, 49, 46]⟩ : ByteArray) = [32, 72, 84, 84, 80, 47, 49, 46] from rfl]
                simp [reqL, verL]
              rw [e]
              exact Ev.now _

end Go.Proofs.YtmmlacbcolfngaaDoor.Q
namespace Go.Proofs.YtmmlacbcolfngaaDoor.Q
open Go.RowKit Go.Proofs.YtmmlacbcolfngaaDoorW.PrintWords Go.Proofs.YtmmlacbcolfngaaDoorW.PrintLast Go.Proofs.YtmmlacbcolfngaaDoorW.PrintMore
set_option linter.unusedVariables false
set_option linter.unusedSimpArgs false
def Rng (l : List Int) : Prop := ∀ x, x ∈ l → 0 ≤ x ∧ x ≤ 255
theorem rng_bytes (s : ByteArray) : Rng (bytesOf s) := by
  intro x hx
  obtain ⟨b, _, rfl⟩ := List.mem_map.1 hx
  exact byte_range b
theorem rng_app {l m : List Int} (h : Rng l) (k : Rng m) : Rng (l ++ m) := fun x hx => (List.mem_append.1 hx).elim (h x) (k x)
theorem rng_cons {a : Int} {l : List Int} (h : 0 ≤ a ∧ a ≤ 255) (k : Rng l) : Rng (a :: l) := fun x hx => (List.mem_cons.1 hx).elim (fun e => e ▸ h) (k x)
theorem rng_nil : Rng [] := fun x hx => by cases hx
theorem rng_ver (m : Int) (h : m = 0 ∨ m = 1) : Rng (verL m) := by rcases h with rfl | rfl <;> (unfold verL Rng; decide)
theorem rng_line (f : S67) : Rng (lineL f) := rng_app (rng_app (rng_app (rng_bytes _) (by unfold Rng; decide)) (rng_bytes _)) (by unfold Rng; decide)
theorem rng_lines (l : List S67) : Rng (l.flatMap lineL) := by
  induction l with
  | nil => exact rng_nil
  | cons f l ih => rw [List.flatMap_cons]; exact rng_app (rng_line f) ih
theorem rng_head {a : List Int} (h : Rng a) (l : List S67) : Rng (headL a l ++ [10]) := rng_app (rng_app (rng_app (rng_app h (by unfold Rng; decide)) (rng_lines l)) (by unfold Rng; decide)) (by unfold Rng; decide)
theorem rng_req (qm qt : ByteArray) (m : Int) (h : m = 0 ∨ m = 1) : Rng (reqL qm qt m) := rng_app (rng_app (rng_app (rng_app (rng_bytes _) (by unfold Rng; decide)) (rng_bytes _)) (by unfold Rng; decide)) (rng_ver m h)
structure WrFact (qm qt : ByteArray) (m : Int) (l : List S67) : Prop where
  m0 : bytesOf qm ≠ []
  m1 : ∀ c ∈ bytesOf qm, isTok c = true
  t0 : bytesOf qt ≠ []
  t1 : ∀ c ∈ bytesOf qt, isVis c = true
  v : m = 0 ∨ m = 1
  n : l.length ≤ 64
  ok : ∀ f ∈ l, FineF f
theorem fineB_ok {l : List S67} (h : fineB l = true) : l.length ≤ 64 ∧ ∀ f ∈ l, FineF f := by
  unfold fineB at h
  simp only [Bool.and_eq_true, decide_eq_true_eq] at h
  exact ⟨h.1, fun f hf => fineF_ok (List.all_eq_true.1 h.2 f hf)⟩
theorem wrOk_fact {qm qt : ByteArray} {m : Int} {l : List S67} (h : wrOk qm qt m l = true) : WrFact qm qt m l := by
  unfold wrOk at h
  simp only [Bool.and_eq_true, decide_eq_true_eq] at h
  obtain ⟨⟨⟨⟨⟨⟨a, b⟩, c⟩, d⟩, e⟩, f⟩, g⟩ := h
  have k := fineB_ok g
  exact ⟨bytes_ne b, tokL_mem a, bytes_ne c, fun x hx => by simpa [kindK] using allB_mem d x hx, by omega, k.1, k.2⟩
theorem wr_eats {qm qt : ByteArray} {m : Int} {l : List S67} (h : WrFact qm qt m l) (most : Int) (hl : ((headL (reqL qm qt m) l).length : Int) ≤ most) :
    ∃ t, Eats (RdSt.new most true 0) (headL (reqL qm qt m) l) t ∧ Live {t with field := []} 10 true ∧ t.most = most ∧ t.len = (headL (reqL qm qt m) l).length ∧ t.qm = qm ∧ t.qt = qt ∧ t.qn = m ∧ t.field = l :=
  eats_request most qm qt m l h.m0 h.m1 h.t0 h.t1 h.v h.n h.ok hl
theorem parse_written {qm qt : ByteArray} {m : Int} {l : List S67} (h : WrFact qm qt m l) (most : Int) (hm : most ≤ 65536) (hl : ((headL (reqL qm qt m) l ++ [10]).length : Int) ≤ most) :
    head_ParseRequest.f (headL (reqL qm qt m) l ++ [10]) most = some (qm, qt, m, l, ((headL (reqL qm qt m) l ++ [10]).length : Int), none) := by
  have hl' : ((headL (reqL qm qt m) l).length : Int) + 1 ≤ most := by
    rw [List.length_append] at hl
    simpa using hl
  obtain ⟨t, e, L, q1, q2, q3, q4, q5, q6⟩ := wr_eats h most (by omega)
  have F := feed_whole e L (by rw [q6]; exact h.n) (by rw [q1, q2]; exact hl') []
  unfold head_ParseRequest.f
  rw [if_pos ⟨by omega, rng_head (rng_req _ _ _ h.v) l⟩, if_neg (by omega)]
  unfold RdSt.res
  rw [F]
  have te : t.err = none := L.err
  simp only [te, if_true, q3, q4, q5, q6, List.length_append, List.length_cons, List.length_nil, Nat.zero_add]
theorem parse_over {qm qt : ByteArray} {m : Int} {l : List S67} (h : WrFact qm qt m l) (most : Int) (hm : most ≤ 65536) (hm1 : 1 ≤ most) (hl : ((headL (reqL qm qt m) l ++ [10]).length : Int) = most + 1) :
    ∃ a b c d e, head_ParseRequest.f (headL (reqL qm qt m) l ++ [10]) most = some (a, b, c, d, e, some 22) := by
  have hl' : ((headL (reqL qm qt m) l).length : Int) = most := by
    rw [List.length_append] at hl
    simp at hl
    omega
  obtain ⟨t, e, L, q1, q2, q3, q4, q5, q6⟩ := wr_eats h most (by omega)
  have F := feed_over e L (by rw [q1, q2]; omega) []
  refine ⟨(⟨#[]⟩ : ByteArray), (⟨#[]⟩ : ByteArray), 0, [], 0, ?_⟩
  unfold head_ParseRequest.f
  rw [if_pos ⟨by omega, rng_head (rng_req _ _ _ h.v) l⟩, if_neg (by omega)]
  unfold RdSt.res
  rw [F]

end Go.Proofs.YtmmlacbcolfngaaDoor.Q
namespace Go.Proofs.YtmmlacbcolfngaaDoor.Q
open Go.RowKit Go.Proofs.YtmmlacbcolfngaaDoorW.PrintWords Go.Proofs.YtmmlacbcolfngaaDoorW.PrintLast Go.Proofs.YtmmlacbcolfngaaDoorW.PrintMore
set_option linter.unusedVariables false
set_option linter.unusedSimpArgs false
theorem sure_f : turnstilelaw09_sure.f = some true := by decide +kernel
theorem num_f (c : Int) : turnstilelaw09_num.f (errOf c) = some c := by
  unfold turnstilelaw09_num.f errOf
  split <;> simp_all
theorem fields_l0 (xs : List S67) (hxs : xs.length ≤ 4398046511104) : ∀ (l : List S67) (i : Int), 0 ≤ i → xs.drop i.toNat = l → i ≤ xs.length → Ev (fun k => turnstilelaw09_fields.l0 k xs xs i) true
  | [], i, h0, h, hi => by
    have e := lscan_nil h0 hi h
    refine Ev.step (fun k => by rw [turnstilelaw09_fields.l0]) ?_
    simp only [if_neg (show ¬ i < (xs.length : Int) by omega)]
    exact Ev.now _
  | f :: l, i, h0, h, hi => by
    obtain ⟨h2, h3, h4⟩ := lscan_cons h0 h
    refine Ev.step (fun k => by rw [turnstilelaw09_fields.l0]) ?_
    simp only [if_pos h2, if_pos h0, beq_self_eq_true, Bool.not_true, Bool.or_self, Bool.false_eq_true, if_false]
    rw [wrap_in (n := i + 1) (by omega)]
    exact fields_l0 xs hxs l (i + 1) (by omega) h4 (by omega)
theorem fields_ev (xs : List S67) (hxs : xs.length ≤ 4398046511104) : Ev (fun k => turnstilelaw09_fields.f k xs xs) true := by
  unfold turnstilelaw09_fields.f
  simp only [if_true]
  exact fields_l0 xs hxs xs 0 (by omega) rfl (by omega)

end Go.Proofs.YtmmlacbcolfngaaDoor.Q
