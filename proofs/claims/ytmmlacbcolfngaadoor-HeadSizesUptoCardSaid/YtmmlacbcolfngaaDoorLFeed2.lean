/- Plain Lean on what the printed functions answer (Feed2); for all arguments that the lemmas name. -/
import Derived.Test.YtmmlacbcolfngaaDoorQ0
import Derived.Test.YtmmlacbcolfngaaDoorLFeed
namespace Go.Proofs.YtmmlacbcolfngaaDoor.Q
open Go.RowKit Go.Proofs.YtmmlacbcolfngaaDoorW.PrintWords Go.Proofs.YtmmlacbcolfngaaDoorW.PrintLast Go.Proofs.YtmmlacbcolfngaaDoorW.PrintMore
set_option linter.unusedVariables false
set_option linter.unusedSimpArgs false
theorem trm_blank (l : List UInt8) (h : trm l = l) : trm (32 :: l) = l := by
  have e : trR blk (32 :: l) = if blk 32 = true ∧ trR blk l = [] then [] else 32 :: trR blk l := trR_cons blk 32 l
  have hb : blk 32 = true := by decide
  unfold trm at h ⊢
  rw [e]
  by_cases hr : trR blk l = []
  · rw [if_pos ⟨hb, hr⟩]
    rw [hr] at h
    exact h
  · rw [if_neg (fun q => hr q.2)]
    have : trL blk (32 :: trR blk l) = trL blk (trR blk l) := by simp [trL, hb]
    rw [this]
    exact h
theorem trimOf_blank (v : ByteArray) (h : trm v.data.toList = v.data.toList) : trimOf (32 :: bytesOf v) = v := by
  unfold trimOf
  have e : (strOfNums (32 :: bytesOf v)).data.toList = 32 :: v.data.toList := by
    have := strOf_bytes v
    unfold strOfNums at this ⊢
    simp only [List.map_cons, ]
    have h2 := congrArg (fun z => z.data.toList) this
    simp only at h2
    rw [h2]
    rfl
  rw [e, trm_blank _ h]
/-- A field's line. -/
def lineL (f : S67) : List Int := bytesOf f.f0 ++ [58, 32] ++ bytesOf f.f1 ++ [13, 10]
/-- What may stand in a line. -/
structure FineF (f : S67) : Prop where
  name : ∀ c ∈ bytesOf f.f0, isTok c = true
  ne : bytesOf f.f0 ≠ []
  val : ∀ c ∈ bytesOf f.f1, isVal c = true
  trim : trm f.f1.data.toList = f.f1.data.toList
theorem Eats.one {s t : RdSt} {k : Int} {b : Bool} (h : Live s k b) (hk : k ≠ 11) {c : Int} (e : s.step c = t) : Eats s [c] t := .cons h.err (by rw [h.at_]; exact hk) (by rw [e]; exact .nil t)
theorem eats_field {s : RdSt} {b : Bool} (h : Live s 7 b) (hw : s.word = []) (hf : s.field.length + 1 ≤ 64) (f : S67) (ok : FineF f) (hl : s.len + (lineL f).length ≤ s.most) :
    Eats s (lineL f) {s with word := [], at_ := 7, name := f.f0, field := s.field ++ [f], len := s.len + (lineL f).length} := by
  have hlen : (lineL f).length = (bytesOf f.f0).length + 2 + (bytesOf f.f1).length + 2 := by simp [lineL]; omega
  have L1 := h.more (bytesOf f.f0)
  have e1 := eats_run (by decide) _ (fun s c h hc => goes_name s c b h hc) (bytesOf f.f0) s h (by omega) ok.name
  have p1 : 0 < (s.more (bytesOf f.f0)).word.length := by
    have := List.length_pos_iff.2 ok.ne
    simp only [RdSt.more, List.length_append]
    omega
  have s1 := end_name L1 p1 (by show s.len + ((bytesOf f.f0).length : Nat) + 1 ≤ s.most; omega)
  have e2 := Eats.one L1 (by decide) s1
  have L2 : Live {s.more (bytesOf f.f0) with word := [], at_ := 8, name := strOfNums (s.more (bytesOf f.f0)).word, len := (s.more (bytesOf f.f0)).len + 1} 8 b := ⟨h.err, rfl, h.asks, h.field⟩
  have e3 := eats_run (by decide) _ (fun s c h hc => goes_value s c b h hc) (32 :: bytesOf f.f1) _ L2 (by simp only [RdSt.more, List.length_cons]; omega) (by
    intro c hc
    rcases List.mem_cons.1 hc with rfl | hc
    · decide
    · exact ok.val c hc)
  have L3 := L2.more (32 :: bytesOf f.f1)
  have s3 := end_value L3 (by simp only [RdSt.more, List.length_cons]; omega)
  have e4 := Eats.one L3 (by decide) s3
  have L4 : Live {(RdSt.more {s.more (bytesOf f.f0) with word := [], at_ := 8, name := strOfNums (s.more (bytesOf f.f0)).word, len := (s.more (bytesOf f.f0)).len + 1} (32 :: bytesOf f.f1)) with at_ := 9, len := (RdSt.more {s.more (bytesOf f.f0) with word := [], at_ := 8, name := strOfNums (s.more (bytesOf f.f0)).word, len := (s.more (bytesOf f.f0)).len + 1} (32 :: bytesOf f.f1)).len + 1} 9 b := ⟨h.err, rfl, h.asks, h.field⟩
  have s4 := end_field L4 hf (by simp only [RdSt.more, List.length_cons]; omega)
  have e5 := Eats.one L4 (by decide) s4
  have E := (((e1.app e2).app e3).app e4).app e5
  have eq : bytesOf f.f0 ++ [58] ++ (32 :: bytesOf f.f1) ++ [13] ++ [10] = lineL f := by simp [lineL]
  rw [eq] at E
  refine cast ?_ E
  congr 1
  simp only [RdSt.more, hw, List.nil_append, strOf_bytes, trimOf_blank _ ok.trim, List.length_cons]
  congr 1
  rw [hlen]
  push_cast
  omega
/-- All lines of fields. -/
theorem eats_fields {b : Bool} : ∀ (fs : List S67) (s : RdSt), Live s 7 b → s.word = [] → s.field.length + fs.length ≤ 64 → (∀ f ∈ fs, FineF f) → s.len + (fs.flatMap lineL).length ≤ s.most →
    ∃ nm, Eats s (fs.flatMap lineL) {s with word := [], at_ := 7, name := nm, field := s.field ++ fs, len := s.len + (fs.flatMap lineL).length}
  | [], s, h, hw, hf, ok, hl => by
    refine ⟨s.name, ?_⟩
    have : ({s with word := [], at_ := 7, name := s.name, field := s.field ++ [], len := s.len + ((([] : List S67).flatMap lineL).length : Nat)} : RdSt) = s := by
      have := h.at_
      cases s
      simp_all
    rw [this]
    exact .nil s
  | f :: fs, s, h, hw, hf, ok, hl => by
    rw [List.flatMap_cons, List.length_append] at hl
    rw [List.length_cons] at hf
    have e1 := eats_field h hw (by omega) f (ok f List.mem_cons_self) (by omega)
    obtain ⟨nm, e2⟩ := eats_fields fs {s with word := [], at_ := 7, name := f.f0, field := s.field ++ [f], len := s.len + (lineL f).length} ⟨h.err, rfl, h.asks, by simp; omega⟩ rfl (by simp; omega) (fun x hx => ok x (List.mem_cons_of_mem _ hx)) (by show s.len + ((lineL f).length : Nat) + ((fs.flatMap lineL).length : Nat) ≤ s.most; omega)
    refine ⟨nm, ?_⟩
    have E := e1.app e2
    rw [← List.flatMap_cons] at E
    refine cast ?_ E
    congr 1
    simp only [List.append_assoc, List.singleton_append, List.flatMap_cons, List.length_append]
    congr 1
    push_cast
    omega
/-- The bytes of a request's first line. -/
def reqL (qm qt : ByteArray) (m : Int) : List Int := bytesOf qm ++ [32] ++ bytesOf qt ++ [32] ++ verL m
/-- A whole head but for its last byte. -/
def headL (first : List Int) (fs : List S67) : List Int := first ++ [13, 10] ++ fs.flatMap lineL ++ [13]
theorem eats_rest {s : RdSt} {b : Bool} (h : Live s 6 b) (hw : s.word = []) (hf : s.field = []) (fs : List S67) (hn : fs.length ≤ 64) (ok : ∀ f ∈ fs, FineF f) (hl : s.len + 1 + (fs.flatMap lineL).length + 1 ≤ s.most) :
    ∃ nm, Eats s ([10] ++ fs.flatMap lineL ++ [13]) {s with word := [], at_ := 10, name := nm, field := fs, len := s.len + 1 + (fs.flatMap lineL).length + 1} := by
  have e1 := Eats.one h (by decide) (end_line h (by omega))
  obtain ⟨nm, e2⟩ := eats_fields (b := b) fs {s with at_ := 7, len := s.len + 1} ⟨h.err, rfl, h.asks, by rw [hf]; simp⟩ hw (by rw [hf]; simpa using hn) ok (by show s.len + 1 + ((fs.flatMap lineL).length : Nat) ≤ s.most; omega)
  have L2 : Live {({s with at_ := 7, len := s.len + 1} : RdSt) with word := [], at_ := 7, name := nm, field := s.field ++ fs, len := s.len + 1 + (fs.flatMap lineL).length} 7 b := ⟨h.err, rfl, h.asks, by rw [hf]; simpa using hn⟩
  have e3 := Eats.one L2 (by decide) (end_empty L2 rfl (by show s.len + 1 + ((fs.flatMap lineL).length : Nat) + 1 ≤ s.most; omega))
  refine ⟨nm, ?_⟩
  have E := (e1.app e2).app e3
  refine cast ?_ E
  congr 1
  simp only [hf, List.nil_append]
theorem eats_request (most : Int) (qm qt : ByteArray) (m : Int) (fs : List S67) (hm0 : bytesOf qm ≠ []) (hm : ∀ c ∈ bytesOf qm, isTok c = true) (ht0 : bytesOf qt ≠ []) (ht : ∀ c ∈ bytesOf qt, isVis c = true) (hv : m = 0 ∨ m = 1) (hn : fs.length ≤ 64) (ok : ∀ f ∈ fs, FineF f)
    (hl : ((headL (reqL qm qt m) fs).length : Int) ≤ most) : ∃ t, Eats (RdSt.new most true 0) (headL (reqL qm qt m) fs) t ∧ Live {t with field := []} 10 true ∧ t.most = most ∧ t.len = (headL (reqL qm qt m) fs).length ∧ t.qm = qm ∧ t.qt = qt ∧ t.qn = m ∧ t.field = fs := by
  have hlen : (headL (reqL qm qt m) fs).length = (bytesOf qm).length + 1 + (bytesOf qt).length + 1 + 8 + 2 + (fs.flatMap lineL).length + 1 := by simp [headL, reqL, verL]; omega
  rw [hlen] at hl ⊢
  have L0 : Live (RdSt.new most true 0) 0 true := ⟨rfl, rfl, rfl, Nat.zero_le _⟩
  have p1 := List.length_pos_iff.2 hm0
  have p2 := List.length_pos_iff.2 ht0
  have e1 := eats_run (by decide) _ goes_method (bytesOf qm) _ L0 (by simp only [RdSt.new]; omega) hm
  have L1 := L0.more (bytesOf qm)
  have s1 := end_method L1 (by simp only [RdSt.more, RdSt.new, List.nil_append]; omega) (by simp only [RdSt.more, RdSt.new]; omega)
  have e2 := Eats.one L1 (by decide) s1
  generalize hg1 : ({(RdSt.new most true 0).more (bytesOf qm) with word := [], at_ := 1, qm := strOfNums ((RdSt.new most true 0).more (bytesOf qm)).word, len := ((RdSt.new most true 0).more (bytesOf qm)).len + 1} : RdSt) = a1 at e2
  have L2 : Live a1 1 true := by rw [← hg1]; exact ⟨rfl, rfl, rfl, Nat.zero_le _⟩
  have q1 : a1.word = [] ∧ a1.len = (bytesOf qm).length + 1 ∧ a1.most = most ∧ a1.qm = qm ∧ a1.field = [] := by rw [← hg1]; simp [RdSt.more, RdSt.new, strOf_bytes]
  obtain ⟨w1, l1, m1, k1, f1⟩ := q1
  have e3 := eats_run (by decide) _ goes_target (bytesOf qt) a1 L2 (by rw [l1, m1]; omega) ht
  have L3 := L2.more (bytesOf qt)
  have s3 := end_target L3 (by simp only [RdSt.more, w1, List.nil_append]; omega) (by simp only [RdSt.more, l1, m1]; omega)
  have e4 := Eats.one L3 (by decide) s3
  generalize hg2 : ({a1.more (bytesOf qt) with word := [], at_ := 2, qt := strOfNums (a1.more (bytesOf qt)).word, len := (a1.more (bytesOf qt)).len + 1} : RdSt) = a2 at e4
  have L4 : Live a2 2 true := by rw [← hg2]; exact ⟨L2.err, rfl, L2.asks, L2.field⟩
  have q2 : a2.word = [] ∧ a2.len = (bytesOf qm).length + 1 + (bytesOf qt).length + 1 ∧ a2.most = most ∧ a2.qm = qm ∧ a2.qt = qt ∧ a2.field = [] := by rw [← hg2]; simp [RdSt.more, strOf_bytes, w1, l1, m1, k1, f1]
  obtain ⟨w2, l2, m2, k2, t2, f2⟩ := q2
  have e5 := eats_ver (by decide) goes_ver a2 L4 w2 (by rw [l2, m2]; omega) m hv
  have L5 := L4.more (verL m)
  have s5 := end_ver L5 (by simp only [RdSt.more, w2, verL, List.nil_append, List.length_cons, List.length_nil]) (by simp only [RdSt.more, l2, m2, verL, List.length_cons, List.length_nil]; omega)
  have e6 := Eats.one L5 (by decide) s5
  generalize hg3 : ({a2.more (verL m) with word := [], at_ := 6, qn := minorOf (a2.more (verL m)).word, len := (a2.more (verL m)).len + 1} : RdSt) = a3 at e6
  have L6 : Live a3 6 true := by rw [← hg3]; exact ⟨L4.err, rfl, L4.asks, L4.field⟩
  have q3 : a3.word = [] ∧ a3.len = (bytesOf qm).length + 1 + (bytesOf qt).length + 1 + 8 + 1 ∧ a3.most = most ∧ a3.qm = qm ∧ a3.qt = qt ∧ a3.qn = m ∧ a3.field = [] := by
    rw [← hg3]
    refine ⟨rfl, ?_, m2, k2, t2, ?_, f2⟩
    · simp only [RdSt.more, l2, verL, List.length_cons, List.length_nil]; omega
    · simp only [RdSt.more, w2, List.nil_append]; exact minor_ver m hv
  obtain ⟨w3, l3, m3, k3, t3, n3, f3⟩ := q3
  obtain ⟨nm, e7⟩ := eats_rest L6 w3 f3 fs hn ok (by rw [l3, m3]; omega)
  have E := (((((e1.app e2).app e3).app e4).app e5).app e6).app e7
  refine ⟨{a3 with word := [], at_ := 10, name := nm, field := fs, len := a3.len + 1 + (fs.flatMap lineL).length + 1}, cast ?_ E, ⟨L6.err, rfl, L6.asks, by simp⟩, m3, ?_, k3, t3, n3, rfl⟩
  · congr 1
    simp [headL, reqL]
  · show a3.len + 1 + ((fs.flatMap lineL).length : Nat) + 1 = _
    rw [l3]
    push_cast
    omega
/-- The bytes of a response's first line. -/
def statL (m : Int) (cw : List Int) (pr : ByteArray) : List Int := verL m ++ [32] ++ cw ++ [32] ++ bytesOf pr
theorem eats_code (s : RdSt) (h : Live s 4 false) (hw : s.word = []) (a b c : Int) (hl : s.len + 3 ≤ s.most) (ha : 49 ≤ a ∧ a ≤ 53) (hb : digB b = true) (hc : digB c = true) : Eats s [a, b, c] (s.more [a, b, c]) := by
  have one : ∀ (l : List Int) (c : Int), (l.length : Int) + 1 ≤ 3 → (digB c && (decide (0 < l.length) || (decide (49 ≤ c) && decide (c ≤ 53)))) = true → Eats s l (s.more l) → Eats s (l ++ [c]) (s.more (l ++ [c])) := by
    intro l c hlen hv e
    have L := h.more l
    have g := goes_code (s.more l) c L (by simp only [RdSt.more, hw, List.nil_append]; omega) (by simp only [RdSt.more, hw, List.nil_append]; exact hv) (by show s.len + (l.length : Int) + 1 ≤ s.most; omega)
    refine e.app (.cons L.err (by rw [L.at_]; decide) ?_)
    rw [g, more_more]
    exact .nil _
  have e0 : Eats s [] (s.more []) := by rw [more_nil]; exact .nil s
  have da : digB a = true := by unfold digB; rw [if_pos (by omega)]; exact decide_eq_true (by omega)
  have e1 := one [] a (by decide) (by rw [da, decide_eq_true ha.1, decide_eq_true ha.2]; rfl) e0
  have e2 := one [a] b (by simp) (by rw [hb]; rfl) e1
  exact one [a, b] c (by simp) (by rw [hc]; rfl) e2
theorem eats_response (most : Int) (m a b c : Int) (pr : ByteArray) (fs : List S67) (ha : 49 ≤ a ∧ a ≤ 53) (hb : digB b = true) (hc : digB c = true) (hr : ∀ c ∈ bytesOf pr, isVal c = true) (hv : m = 0 ∨ m = 1) (hn : fs.length ≤ 64) (ok : ∀ f ∈ fs, FineF f)
    (hl : ((headL (statL m [a, b, c] pr) fs).length : Int) ≤ most) : ∃ t, Eats (RdSt.new most false 3) (headL (statL m [a, b, c] pr) fs) t ∧ Live {t with field := []} 10 false ∧ t.most = most ∧ t.len = (headL (statL m [a, b, c] pr) fs).length ∧ t.ps = decOf [a, b, c] ∧ t.pr = pr ∧ t.pn = m ∧ t.field = fs := by
  have hlen : (headL (statL m [a, b, c] pr) fs).length = 8 + 1 + 3 + 1 + (bytesOf pr).length + 2 + (fs.flatMap lineL).length + 1 := by simp [headL, statL, verL]; omega
  rw [hlen] at hl ⊢
  have L0 : Live (RdSt.new most false 3) 3 false := ⟨rfl, rfl, rfl, Nat.zero_le _⟩
  have e1 := eats_ver (by decide) goes_vers _ L0 rfl (by simp only [RdSt.new]; omega) m hv
  have L1 := L0.more (verL m)
  have s1 := end_vers L1 (by simp only [RdSt.more, RdSt.new, verL, List.nil_append, List.length_cons, List.length_nil]) (by simp only [RdSt.more, RdSt.new, verL, List.length_cons, List.length_nil]; omega)
  have e2 := Eats.one L1 (by decide) s1
  generalize hg1 : ({(RdSt.new most false 3).more (verL m) with word := [], at_ := 4, pn := minorOf ((RdSt.new most false 3).more (verL m)).word, len := ((RdSt.new most false 3).more (verL m)).len + 1} : RdSt) = a1 at e2
  have L2 : Live a1 4 false := by rw [← hg1]; exact ⟨rfl, rfl, rfl, Nat.zero_le _⟩
  have q1 : a1.word = [] ∧ a1.len = 8 + 1 ∧ a1.most = most ∧ a1.pn = m ∧ a1.field = [] := by rw [← hg1]; exact ⟨rfl, by simp [RdSt.more, RdSt.new, verL], rfl, by simp only [RdSt.more, RdSt.new, List.nil_append]; exact minor_ver m hv, rfl⟩
  obtain ⟨w1, l1, m1, k1, f1⟩ := q1
  have e3 := eats_code a1 L2 w1 a b c (by rw [l1, m1]; omega) ha hb hc
  have L3 := L2.more [a, b, c]
  have s3 := end_code L3 (by simp only [RdSt.more, w1, List.nil_append, List.length_cons, List.length_nil]) (by simp only [RdSt.more, l1, m1, List.length_cons, List.length_nil]; omega)
  have e4 := Eats.one L3 (by decide) s3
  generalize hg2 : ({a1.more [a, b, c] with word := [], at_ := 5, ps := decOf (a1.more [a, b, c]).word, len := (a1.more [a, b, c]).len + 1} : RdSt) = a2 at e4
  have L4 : Live a2 5 false := by rw [← hg2]; exact ⟨L2.err, rfl, L2.asks, L2.field⟩
  have q2 : a2.word = [] ∧ a2.len = 8 + 1 + 3 + 1 ∧ a2.most = most ∧ a2.pn = m ∧ a2.ps = decOf [a, b, c] ∧ a2.field = [] := by rw [← hg2]; exact ⟨rfl, by simp [RdSt.more, l1], m1, k1, by simp [RdSt.more, w1], f1⟩
  obtain ⟨w2, l2, m2, k2, t2, f2⟩ := q2
  have e5 := eats_run (by decide) _ goes_reason (bytesOf pr) a2 L4 (by rw [l2, m2]; omega) hr
  have L5 := L4.more (bytesOf pr)
  have s5 := end_reason L5 (by simp only [RdSt.more, l2, m2]; omega)
  have e6 := Eats.one L5 (by decide) s5
  generalize hg3 : ({a2.more (bytesOf pr) with word := [], at_ := 6, pr := strOfNums (a2.more (bytesOf pr)).word, len := (a2.more (bytesOf pr)).len + 1} : RdSt) = a3 at e6
  have L6 : Live a3 6 false := by rw [← hg3]; exact ⟨L4.err, rfl, L4.asks, L4.field⟩
  have q3 : a3.word = [] ∧ a3.len = 8 + 1 + 3 + 1 + (bytesOf pr).length + 1 ∧ a3.most = most ∧ a3.pn = m ∧ a3.ps = decOf [a, b, c] ∧ a3.pr = pr ∧ a3.field = [] := by
    rw [← hg3]
    refine ⟨rfl, ?_, m2, k2, t2, ?_, f2⟩
    · simp only [RdSt.more, l2]
    · simp only [RdSt.more, w2, List.nil_append, strOf_bytes]
  obtain ⟨w3, l3, m3, k3, t3, n3, f3⟩ := q3
  obtain ⟨nm, e7⟩ := eats_rest L6 w3 f3 fs hn ok (by rw [l3, m3]; omega)
  have E := (((((e1.app e2).app e3).app e4).app e5).app e6).app e7
  refine ⟨{a3 with word := [], at_ := 10, name := nm, field := fs, len := a3.len + 1 + (fs.flatMap lineL).length + 1}, cast ?_ E, ⟨L6.err, rfl, L6.asks, by simp⟩, m3, ?_, t3, n3, k3, rfl⟩
  · congr 1
    simp [headL, statL]
  · show a3.len + 1 + ((fs.flatMap lineL).length : Nat) + 1 = _
    rw [l3]
    push_cast
    omega
/-- The last byte, where it may come. -/
theorem feed_whole {s t : RdSt} {l : List Int} {b : Bool} (e : Eats s l t) (h : Live {t with field := []} 10 b) (hf : t.field.length ≤ 64) (hl : t.len + 1 ≤ t.most) (m : List Int) : s.feed (l ++ 10 :: m) = ({t with at_ := 11, len := t.len + 1}, l.length + 1) := by
  have L : Live t 10 b := ⟨h.err, h.at_, h.asks, hf⟩
  have E := e.app (Eats.one L (by decide) (end_head L hl))
  have := E.stop (.inr rfl) m
  simpa using this
/-- The last byte, where it is one too many. -/
theorem feed_over {s t : RdSt} {l : List Int} {b : Bool} (e : Eats s l t) (h : Live {t with field := []} 10 b) (hl : t.len + 1 > t.most) (m : List Int) : (s.feed (l ++ 10 :: m)).1.err = some 22 := by
  have he : t.err = none := h.err
  have ha : t.at_ = 10 := h.at_
  have E := e.app (.cons he (by rw [ha]; decide) (.nil (t.step 10)))
  have hs : (t.step 10).err = some 22 := by
    unfold RdSt.step RdSt.byte RdSt.fldLine judge
    simp [ha, hl]
  have := E.stop (.inl (by rw [hs]; simp)) m
  rw [List.append_assoc, List.singleton_append] at this
  rw [this]
  exact hs

end Go.Proofs.YtmmlacbcolfngaaDoor.Q
