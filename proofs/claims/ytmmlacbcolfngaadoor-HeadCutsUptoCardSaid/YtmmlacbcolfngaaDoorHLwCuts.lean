/- The law HeadCuts, walked where it answers true. By hand. -/
import Derived.Test.YtmmlacbcolfngaaDoorHRdTwo
import Derived.Test.YtmmlacbcolfngaaDoorWGuard
import Derived.Test.YtmmlacbcolfngaaDoorQTurnstilelaw09stub
import Derived.Test.YtmmlacbcolfngaaDoorQTurnstilelaw09stub2
import Derived.Test.YtmmlacbcolfngaaDoorQTurnstilelaw092
import Derived.Test.YtmmlacbcolfngaaDoorLLaw09
import Derived.StillTactics
namespace Go.Proofs.YtmmlacbcolfngaaDoor.Q
open Go.RowKit Go.Proofs.YtmmlacbcolfngaaDoorW.PrintWords Go.Proofs.YtmmlacbcolfngaaDoorW.PrintLast Go.Proofs.YtmmlacbcolfngaaDoorW.PrintMore
attribute [local go_sem] max2_int min2_int max_two min_two max_three min_three max_four min_four
set_option linter.unusedVariables false
set_option linter.unusedSimpArgs false
set_option maxRecDepth 8000
def start0 (resp : Bool) : RdSt := RdSt.new 4096 (!resp) (if resp = true then 3 else 0)
theorem reader_calls (w : World) (resp : Bool) :
    Calls Tryd.prog 24 #[.bool resp, .int .i64 4096] w fun e w' => ∃ g, e = .returned (.tuple #[.pointer (some ⟨g, 0, none⟩), .nilIface]) ∧ Rd w.heap.size w' g (start0 resp) (.slice none 0 0) (.slice none 0 0) ∧ Below w.heap.size w w' := by
  unfold start0
  cases resp with
  | true =>
    go_enter Tryd.func24, Tryd.ntmps24
    go_wp2_with (first
      | ((with_reducible refine gate_callee (f := 54) rfl ?_)
         refine goesL_ (some 8) rfl rfl Tryd.func54 (by kernel_rfl) rfl #[.int .i64 4096] rfl (by (try simp only [List.map_toArray, List.map_cons, List.map_nil]); first | done | rfl) ?_
         (with_reducible refine (newResponse_good _ 4096 (by omega)).mono ?_)
         rintro e w2 ⟨g, rfl, hr, hd⟩
         have Z := Aside0.mk (And.intro hr hd)
         clear hd hr
         rw [errW_none]
         refine ⟨_, rfl, ?_⟩))
    go_ret2
    exact ⟨g, rfl, Z.out.1, Z.out.2⟩
  | false =>
    go_enter Tryd.func24, Tryd.ntmps24
    go_wp2_with (first
      | ((with_reducible refine gate_callee (f := 52) rfl ?_)
         refine goesL_ (some 12) rfl rfl Tryd.func52 (by kernel_rfl) rfl #[.int .i64 4096] rfl (by (try simp only [List.map_toArray, List.map_cons, List.map_nil]); first | done | rfl) ?_
         (with_reducible refine (newRequest_good _ 4096 (by omega)).mono ?_)
         rintro e w2 ⟨g, rfl, hr, hd⟩
         have Z := Aside0.mk (And.intro hr hd)
         clear hd hr
         rw [errW_none]
         refine ⟨_, rfl, ?_⟩))
    go_ret2
    exact ⟨g, rfl, Z.out.1, Z.out.2⟩
theorem start0_ok (resp : Bool) : (start0 resp).OK := new_ok 4096 _ _ (by omega)
theorem grown_nil {W W1 : World} (h : W.grownBy W1 (Value.slice none 0 0).ownBlock) : Below W.heap.size W W1 := ⟨h.os, h.tape, h.output, h.size, fun k hk => h.block k hk (by simp [Value.ownBlock])⟩
theorem off_new {α : Type} {d : Kd α} {e b' : Nat} {W : World} {y u v : Value} {xs : List α} {ok : Nat → Prop} (hy : d.R e W b' ok y xs) (hr : v.ownBlock = u.ownBlock ∨ ∀ k, v.ownBlock = some k → W.heap.size ≤ k) (h : Off y u) : Off y v := by
  intro k hk hv
  rcases hr with e | e
  · rw [e] at hv
    exact h k hk hv
  · have := e k hv
    have := Kd.R_lt hy k hk
    omega
theorem feed_callsD (base : Nat) (w : World) (g : Nat) (s : RdSt) (u0 u1 : Value) (A : Option Addr) (bs : List Int) (n : Nat) (cb : Nat) (hbl : bs.length = n) (hC : ∀ W' v0 v1, Chg base w g u0 u1 W' v0 v1 → (Kd.int .u8).C W' A n bs) (hn : n ≤ 9000000000000000000) (hx : ∀ x, x ∈ bs → 0 ≤ x ∧ x ≤ 255)
    (ho : s.OK) (h : Rd base w g s u0 u1) :
    Calls Tryd.prog 25 #[.pointer (some ⟨g, 0, none⟩), .slice A n cb] w fun e w' =>
      ∃ v0 v1, e = .returned (.tuple #[.int .i64 ((s.feed bs).2 : Int), .bool ((s.feed bs).1.err.isNone && (s.feed bs).1.at_ == 11), errW (s.feed bs).1.err]) ∧ St base w g u0 u1 w' (s.feed bs).1 v0 v1 := by
  subst hbl
  exact feed_callsG base w g s u0 u1 A bs cb hC hn hx ho h
theorem feed_le : ∀ (l : List Int) (s : RdSt), (s.feed l).2 ≤ l.length
  | [], s => Nat.le_refl _
  | c :: l, s => by
    rw [RdSt.feed]
    split
    · have := feed_le l {(s.byte c).1 with err := (s.byte c).2}
      show _ + 1 ≤ l.length + 1
      omega
    · exact Nat.zero_le _
theorem feed_split : ∀ (l m : List Int) (s : RdSt), s.feed (l ++ m) = if (s.feed l).1.err = none ∧ (s.feed l).1.at_ ≠ 11 then (((s.feed l).1.feed m).1, (s.feed l).2 + ((s.feed l).1.feed m).2) else s.feed l
  | [], m, s => by
    have e : s.feed [] = (s, 0) := rfl
    rw [List.nil_append, e]
    by_cases h : s.err = none ∧ s.at_ ≠ 11
    · rw [if_pos h]
      simp
    · rw [if_neg h, feed_stop s h]
  | c :: l, m, s => by
    rw [List.cons_append, RdSt.feed, RdSt.feed]
    by_cases h : s.err = none ∧ s.at_ ≠ 11
    · rw [if_pos h, if_pos h]
      have ih := feed_split l m {(s.byte c).1 with err := (s.byte c).2}
      rw [ih]
      split
      · simp only
        congr 1
        omega
      · rfl
    · rw [if_neg h, if_neg h]
      simp only
      rw [if_neg h]
theorem byte_len (s : RdSt) (c : Int) : ({(s.byte c).1 with err := (s.byte c).2} : RdSt).len = s.len + 1 := by
  show (s.byte c).1.len = s.len + 1
  unfold RdSt.byte
  split
  · rfl
  · split
    · exact (fld_near _ _).len
    · split
      · exact (req_near _ _).len
      · exact (stat_near _ _).len
theorem feed_room : ∀ (l : List Int) (s : RdSt), s.OK → s.len ≤ 65537 → (s.feed l).1.len ≤ 65537
  | [], s, _, h => h
  | c :: l, s, ho, h => by
    by_cases hk : s.err = none ∧ s.at_ ≠ 11
    · rw [feed_go s hk]
      refine feed_room l _ (byte_ok s c ho) ?_
      rw [byte_len]
      have := ho.in_ hk.1
      have := ho.most
      omega
    · rw [feed_stop s hk]
      exact h
theorem start0_len (resp : Bool) : (start0 resp).len = 0 := by cases resp <;> rfl
theorem Rd.lower {base b' : Nat} {W : World} {g : Nat} {s : RdSt} {v0 v1 : Value} (h : Rd base W g s v0 v1) (hb : b' ≤ base) : Rd b' W g s v0 v1 := ⟨h.blk, Kd.R_lower h.word hb, Kd.R_lower h.field hb, Nat.le_trans hb h.ge, Nat.le_trans hb h.size⟩
theorem two_new {base : Nat} {w1 w2 : World} {g1 g2 : Nat} {s1 s2 : RdSt} {u0 u1 : Value} (h : Rd base w1 g1 s1 u0 u1) (k : Rd w1.heap.size w2 g2 s2 (.slice none 0 0) (.slice none 0 0)) (hb : Below w1.heap.size w1 w2) : Two base w2 g1 s1 u0 u1 g2 s2 (.slice none 0 0) (.slice none 0 0) :=
  ⟨h.on hb, k.lower h.size, fun e => by have := blk_lt h.blk; have := k.ge; omega, (off_nil _).symm, (off_nil _).symm⟩
structure Held (base : Nat) (W : World) (g t : Nat) (cs : Array Value) (v : Value) (xs : List S67) (u0 u1 : Value) : Prop where
  box : W.heap[g]? = some (.cells cs t (0, 0))
  row : Kd.R k67 67 W base (fun _ => True) v xs
  off : Off v u0 ∧ Off v u1
  ht : 5 ≠ t ∧ 67 ≠ t ∧ t ≠ 105
section
variable {base : Nat} {W W0 W1 Wp : World} {g t g1 : Nat} {s1 : RdSt} {cs : Array Value} {v u0 u1 x0 x1 : Value} {xs : List S67}
theorem Held.on (h : Held base W g t cs v xs u0 u1) (hb : Below W.heap.size W W1) : Held base W1 g t cs v xs u0 u1 := ⟨blk_below h.box hb, Kd.R_below h.row hb, h.off, h.ht⟩
theorem Held.fed (h : Held base W g t cs v xs u0 u1) (hr : Rd base W g1 s1 u0 u1) (hc : Chg base W g1 u0 u1 W1 x0 x1) : Held base W1 g t cs v xs u0 u1 :=
  ⟨(hc.keep g (blk_lt h.box) (blk_ne h.box hr.blk h.ht.2.2) (Kd.R_ne hr.word h.box h.ht.1) (Kd.R_ne hr.field h.box h.ht.2.1)).trans h.box, row_keep rfl h.row hr hc (by decide) h.off.1 h.off.2, h.off, h.ht⟩
theorem Held.new (ho : Kd.R k67 67 W0 Wp.heap.size (fun _ => True) v xs) (hr : Rd base Wp g1 s1 u0 u1) (cs : Array Value) (t : Nat) (ht : 5 ≠ t ∧ 67 ≠ t ∧ t ≠ 105) : Held base (W0.alloc (.cells cs t)) W0.heap.size t cs v xs u0 u1 :=
  ⟨blk_new _ _, Kd.R_alloc (Kd.R_lower ho hr.size) _, ⟨fun i hv hu => by have := Kd.R_base ho i hv; have := Kd.R_lt hr.word i hu; omega, fun i hv hu => by have := Kd.R_base ho i hv; have := Kd.R_lt hr.field i hu; omega⟩, ht⟩
theorem x_reads (hr : Rd base Wp g1 s1 u0 u1) (W' : World) (z0 z1 : Value) (hc : Chg base (Wp.alloc (.cells #[.int .u8 120] 5 (1, 2))) g1 u0 u1 W' z0 z1) : (Kd.int .u8).C W' (some ⟨Wp.heap.size, 0, none⟩) 1 [120] := by
  have hb := blk_new Wp (.cells #[.int .u8 120] 5 (1, 2))
  have hk : W'.heap[Wp.heap.size]? = some (.cells #[.int .u8 120] 5 (1, 2)) := by
    refine (hc.keep Wp.heap.size (blk_lt hb) ?_ ?_ ?_).trans hb
    · have := blk_lt hr.blk
      omega
    · intro e
      have := Kd.R_lt hr.word _ e.symm
      omega
    · intro e
      have := Kd.R_lt hr.field _ e.symm
      omega
  refine ⟨rfl, by decide, fun _ => ⟨⟨Wp.heap.size, 0, none⟩, rfl, fun j p hj => ?_⟩⟩
  match j, hj with
  | 0, hj =>
    have e : p = 120 := by simpa using hj.symm
    subst e
    have hc0 := cell_of_row W' Wp.heap.size 0 _ _ (1, 2) hk
    refine ⟨[.int .u8 120], rfl, rfl, fun i u hi => ?_⟩
    match i, hi with
    | 0, hi =>
      have e : u = .int .u8 120 := by simpa using hi.symm
      subst e
      exact hc0
    | i + 1, hi => simp at hi
  | j + 1, hj => simp at hj
end
set_option maxHeartbeats 12800000 in
theorem lwCuts (w : World) (A0 : Option Addr) (c0 : Nat) (l0 : List Int) (a1 : Bool) (a2 : Int) (hr0 : Kd.C (Kd.int .u8) w A0 l0.length l0) (hc0 : l0.length ≤ c0) (hGE : GlobE w) (hn : l0.length ≤ 2097152) (hx : ∀ x, x ∈ l0 → 0 ≤ x ∧ x ≤ 255) :
    Calls Tryd.prog 7 #[.slice A0 l0.length c0, .bool a1, .int .i64 a2] w fun e w' => e = .returned (.bool true) ∧ Below w.heap.size w w' := by
  have HR0 := Aside0.mk hr0
  have HC0 := Aside0.mk hc0
  have HGE := Aside0.mk hGE
  have HN := Aside0.mk hn
  have HX := Aside0.mk hx
  clear hr0 hc0 hGE hx
  by_cases hl : l0.length > 20000
  · have d1 : decide ((l0.length : Int) > 20000) = true := decide_eq_true (by omega)
    clear hl hn
    go_enter Tryd.func7, Tryd.ntmps7
    go_wp2_with (first
      | ((with_reducible refine gate_callee (f := 24) rfl ?_)
         refine goesL_ (some 36) rfl rfl Tryd.func24 (by kernel_rfl) rfl #[.bool a1, .int .i64 4096] rfl (by (try simp only [List.map_toArray, List.map_cons, List.map_nil]); first | done | rfl) ?_
         (with_reducible refine (reader_calls _ a1).mono ?_)
         rintro e w1 ⟨g1, rfl, hr, hb⟩
         have R1 := Aside0.mk hr
         have B1 := Aside0.mk hb
         clear hr hb
         refine ⟨_, rfl, ?_⟩)
      | ((with_reducible refine gate_callee (f := 24) rfl ?_)
         refine goesL_ (some 41) rfl rfl Tryd.func24 (by kernel_rfl) rfl #[.bool a1, .int .i64 4096] rfl (by (try simp only [List.map_toArray, List.map_cons, List.map_nil]); first | done | rfl) ?_
         (with_reducible refine (reader_calls _ a1).mono ?_)
         rintro e w2 ⟨g2, rfl, hr, hb⟩
         have T2 := Aside0.mk (two_new R1.out hr hb)
         have B2 := Aside0.mk (below_step B1.out hb)
         clear hr hb
         refine ⟨_, rfl, ?_⟩)
      | ((with_reducible refine gate_callee (f := 18) rfl ?_)
         refine gate_guard (by rfl) ?_
         dsimp only
         refine goesL_ (some 78) rfl rfl Tryd.func18 (by kernel_rfl) rfl #[] rfl (by (try simp only [List.map_toArray, List.map_cons, List.map_nil]); first | done | rfl) ?_
         (with_reducible refine (turnstilelaw09_sure.calls true _ rfl).mono ?_)
         rintro e w9 ⟨rfl, hb⟩
         refine ⟨_, rfl, ?_⟩
         have BZ := Aside0.mk (below_step B2.out hb)
         clear hb))
    go_ret
    exact ⟨rfl, BZ.out⟩
  · have d1 : decide ((l0.length : Int) > 20000) = false := decide_eq_false (by omega)
    clear hl hn
    go_enter Tryd.func7, Tryd.ntmps7
    go_upto_region 7 with (first
      | ((with_reducible refine gate_callee (f := 24) rfl ?_)
         refine goesL_ (some 36) rfl rfl Tryd.func24 (by kernel_rfl) rfl #[.bool a1, .int .i64 4096] rfl (by (try simp only [List.map_toArray, List.map_cons, List.map_nil]); first | done | rfl) ?_
         (with_reducible refine (reader_calls _ a1).mono ?_)
         rintro e w1 ⟨g1, rfl, hr, hb⟩
         have R1 := Aside0.mk hr
         have B1 := Aside0.mk hb
         clear hr hb
         refine ⟨_, rfl, ?_⟩)
      | ((with_reducible refine gate_callee (f := 24) rfl ?_)
         refine goesL_ (some 41) rfl rfl Tryd.func24 (by kernel_rfl) rfl #[.bool a1, .int .i64 4096] rfl (by (try simp only [List.map_toArray, List.map_cons, List.map_nil]); first | done | rfl) ?_
         (with_reducible refine (reader_calls _ a1).mono ?_)
         rintro e w2 ⟨g2, rfl, hr, hb⟩
         have T2 := Aside0.mk (two_new R1.out hr hb)
         have B2 := Aside0.mk (below_step B1.out hb)
         clear hr hb
         refine ⟨_, rfl, ?_⟩)
      | ((with_reducible refine gate_builtin (b := .append) (xs := #[.tmp 80, .tmp 81]) rfl ?_); at_builtin
         refine Kd.R_append_rows (Kd.int .u8) (w0 := w) w.heap.size rfl (.tmp 80) (.tmp 81) 27 5 (.int .u8 0) 1 rfl Tryd.underlying27 info5 rfl (by decide) (by omega) (.slice none 0 0) ([] : List Int) l0 _ _ _ (fun _ => True) (fun _ => False) rfl rfl ?aO ?aR (fun _ _ h => h) (fun _ h => h.elim) (fun _ _ => trivial) ?aB ?aS ?aL ?_
         case aO => exact Kd.R_nil _ _ _ _ (fun _ => True)
         case aR => exact Kd.C_below HR0.out B2.out
         case aB => exact B2.out
         case aS => exact below_size B2.out
         case aL => have := HN.out; simp only [List.length_nil]; omega
         intro x80 w80 ho hb hg hat
         rw [List.nil_append] at ho
         have B3 := Aside0.mk hb
         have X := Aside0.mk ho
         have T3 := Aside0.mk (T2.out.on (grown_nil hg))
         clear ho hb hg hat)
      | ((with_reducible refine gate_builtin (b := .append) (xs := #[.tmp 83, .tmp 84]) rfl ?_); at_builtin
         refine Kd.R_append_rows (Kd.int .u8) (w0 := w) w.heap.size rfl (.tmp 83) (.tmp 84) 27 5 (.int .u8 0) 1 rfl Tryd.underlying27 info5 rfl (by decide) (by omega) (.slice none 0 0) ([] : List Int) l0 _ _ _ (fun _ => True) (fun _ => False) rfl rfl ?aO ?aR (fun _ _ h => h) (fun _ h => h.elim) (fun _ _ => trivial) ?aB ?aS ?aL ?_
         case aO => exact Kd.R_nil _ _ _ _ (fun _ => True)
         case aR => exact Kd.C_below HR0.out B3.out
         case aB => exact B3.out
         case aS => exact below_size B3.out
         case aL => have := HN.out; simp only [List.length_nil]; omega
         intro x83 w83 ho hb hg hat
         rw [List.nil_append] at ho
         have B4 := Aside0.mk hb
         have Y := Aside0.mk ho
         have X4 := Aside0.mk (Kd.R_below X.out (grown_nil hg))
         have T4 := Aside0.mk (T3.out.on (grown_nil hg))
         clear ho hb hg hat))
    obtain ⟨Ax, cx, ex⟩ := Kd.R_slice X4.out
    subst ex
    obtain ⟨Ay, cy, ey, hcy, _⟩ := Kd.R_reads Y.out
    subst ey
    have HCY := Aside0.mk hcy
    clear hcy
    obtain ⟨S, N, hS⟩ : ∃ S N, (start0 a1).feed l0 = (S, N) := ⟨_, _, rfl⟩
    obtain ⟨D, hD⟩ : ∃ D, (S.err.isNone && S.at_ == 11) = D := ⟨_, rfl⟩
    have HS := Aside0.mk hS
    have HD := Aside0.mk hD
    have HOK := Aside0.mk (show S.OK by have := (feed_keep l0 (start0 a1) (start0_ok a1)).1; rw [hS] at this; exact this)
    have HFL := Aside0.mk (show S.field.length ≤ 65537 by
      have h1 := feed_room l0 (start0 a1) (start0_ok a1) (by rw [start0_len]; omega)
      rw [hS] at h1
      have h2 := HOK.out.field
      have h3 : S.len ≤ 65537 := h1
      omega)
    clear hS hD
    obtain ⟨kq, hkq⟩ : ∃ k, turnstilelaw09_requests.f k S.reqM S.reqT S.reqN S.reqF S.reqM S.reqT S.reqN S.reqF = some true := by
      have hl : S.reqF.length ≤ 4398046511104 := by
        have := HFL.out
        unfold RdSt.reqF
        split <;> simp <;> omega
      obtain ⟨k, hk⟩ := (fields_ev S.reqF hl).rounds
      exact ⟨k, by simp [turnstilelaw09_requests.f, hk]⟩
    obtain ⟨ks, hks⟩ : ∃ k, turnstilelaw09_responses.f k S.resS S.resR S.resN S.resF S.resS S.resR S.resN S.resF = some true := by
      have hl : S.resF.length ≤ 4398046511104 := by
        have := HFL.out
        unfold RdSt.resF
        split <;> simp <;> omega
      obtain ⟨k, hk⟩ := (fields_ev S.resF hl).rounds
      exact ⟨k, by simp [turnstilelaw09_responses.f, hk]⟩
    go_upto_if 95 with (first
      | ((with_reducible refine gate_callee (f := 25) rfl ?_)
         refine goesL_ (some 89) rfl rfl Tryd.func25 (by kernel_rfl) rfl #[.pointer (some ⟨g1, 0, none⟩), .slice Ax l0.length cx] rfl (by (try simp only [List.map_toArray, List.map_cons, List.map_nil]); first | done | rfl) ?_
         (with_reducible refine (feed_callsG w.heap.size _ g1 (start0 a1) (.slice none 0 0) (.slice none 0 0) Ax l0 cx (fun W' v0 v1 hc => (Kd.R_reads' (row_keep rfl X4.out T4.out.a hc (by decide) (off_nil _).symm (off_nil _).symm)).2.2) (by have := HN.out; omega) HX.out (start0_ok a1) T4.out.a).mono ?_)
         rintro e w5 ⟨u0, u1, he, hs⟩
         rw [HS.out] at he hs
         dsimp only at he hs
         rw [HD.out] at he
         subst he
         have T5 := Aside0.mk (T4.out.left hs)
         have B5 := Aside0.mk (B4.out.trans hs.chg.below)
         have Y5 := Aside0.mk (row_keep rfl Y.out T4.out.a hs.chg (by decide) (off_nil _).symm (off_nil _).symm)
         clear hs
         refine ⟨_, rfl, ?_⟩))
    go_cut [16] (fun v16 wc => ∃ c : Nat, v16 = .int .i64 (c : Int) ∧ Aside0 (c ≤ l0.length) ∧ Aside0 (w5 = wc))
    case first =>
      by_cases h0 : l0.length = 0
      · have d0 : decide ((l0.length : Int) > 0) = false := decide_eq_false (by omega)
        have d0' : decide (0 < l0.length) = false := decide_eq_false (by omega)
        have d00 : ¬ 0 < l0.length := by omega
        go_wp2
        go_meet
        case rel => exact ⟨0, rfl, ⟨Nat.zero_le _⟩, ⟨rfl⟩⟩
      · have d0 : decide ((l0.length : Int) > 0) = true := decide_eq_true (by omega)
        have d0' : decide (0 < l0.length) = true := decide_eq_true (by omega)
        have dz : (l0.length : Int) ≠ 0 := by omega
        obtain ⟨i, hi, hib⟩ : ∃ i : Nat, wrap64 ((IntKind.u64.wrap a2).tmod (l0.length : Int)) = (i : Int) ∧ i < l0.length := by
          have hn := HN.out
          have e : ∀ n : Int, IntKind.u64.wrap n = n % 18446744073709551616 := fun n => by simp [IntKind.wrap, IntKind.bits, IntKind.signed]
          have q0 : 0 ≤ IntKind.u64.wrap a2 := by rw [e]; omega
          have q1 := Int.emod_nonneg (IntKind.u64.wrap a2) dz
          have q2 := Int.emod_lt_of_pos (IntKind.u64.wrap a2) (show (0 : Int) < l0.length by omega)
          refine ⟨((IntKind.u64.wrap a2) % (l0.length : Int)).toNat, ?_, by omega⟩
          rw [Int.tmod_eq_emod_of_nonneg q0]
          unfold wrap64
          omega
        have HI := Aside0.mk hib
        have hn := HN.out
        have h1 : 1 ≤ l0.length := by omega
        clear hib h0
        have dz1 : ((l0.length : Int) == 0) = false := by rw [beq_eq_false_iff_ne]; exact dz
        have dz2 : ¬ (l0.length : Int) = 0 := dz
        have dz3 : IntKind.u64.wrap (l0.length : Int) = (l0.length : Int) := by simp [IntKind.wrap, IntKind.bits, IntKind.signed]; omega
        go_wp2
        go_meet
        case rel => exact ⟨i, by first | rfl | rw [hi] | simp [hi], ⟨Nat.le_of_lt HI.out⟩, ⟨rfl⟩⟩
    case rest =>
      obtain ⟨c, rfl, HCL, hw⟩ := hcut
      obtain rfl := hw.out
      clear hw
      have hn := HN.out
      have hcl := HCL.out
      have hcy : l0.length ≤ cy := HCY.out
      obtain ⟨i0, hi0, _, hsz, _⟩ := info_parts info5
      have s1 := cut_to (P := Tryd.prog) 27 5 .i64 Tryd.underlying27 hi0 Ay l0.length cy (c : Int) (by omega) (by omega) hcy
      have s2 := cut_from (P := Tryd.prog) 27 5 .i64 Tryd.underlying27 hi0 1 hsz Ay l0.length cy (c : Int) (by omega) (by omega)
      rw [Int.toNat_natCast] at s1 s2
      have CT : ∀ W : World, (Kd.int .u8).C W Ay l0.length l0 → (Kd.int .u8).C W Ay c (l0.take c) := fun W h => by
        have h9 := Kd.C_take (m := c) h hcl
        rw [show (l0.take c).length = c by rw [List.length_take]; omega] at h9
        exact h9
      have CD := Aside0.mk (show ∀ W : World, (Kd.int .u8).R 5 W w.heap.size (fun _ => True) (.slice Ay l0.length cy) l0 → (Kd.int .u8).C W (if cy = c then Ay else Ay.map (·.add (c * 1))) (l0.length - c) (l0.drop c) from fun W h => by
        have h9 := Kd.C_drop (m := c) (c := cy) (Kd.R_reads' h).2.2 hcl hcy
        rw [List.length_drop] at h9
        exact h9)
      have hld : (l0.drop c).length = l0.length - c := List.length_drop
      have F4 := Aside0.mk (feed_callsD w.heap.size w5 g2 (start0 a1) (.slice none 0 0) (.slice none 0 0) Ay (l0.take c) c cy (by rw [List.length_take]; omega) (fun W' v0 v1 hc => CT W' (Kd.R_reads' (row_keep rfl Y5.out T5.out.b hc (by decide) (off_nil _).symm (off_nil _).symm)).2.2) (by omega) (fun x hx => HX.out x (List.mem_of_mem_take hx)) (start0_ok a1) T5.out.b)
      generalize hAd : (if cy = c then Ay else Ay.map (·.add (c * 1))) = Ad at s2 CD
      clear hcl hcy hsz hi0 CT hld
      have hsp := feed_split (l0.take c) (l0.drop c) (start0 a1)
      rw [List.take_append_drop, HS.out] at hsp
      by_cases hk : ((start0 a1).feed (l0.take c)).1.err = none ∧ ((start0 a1).feed (l0.take c)).1.at_ ≠ 11
      · rw [if_pos hk] at hsp
        have hko := (feed_keep (l0.take c) (start0 a1) (start0_ok a1)).1
        have hle := feed_le l0 (start0 a1)
        rw [HS.out] at hle
        obtain ⟨K, M, hKM⟩ : ∃ K M, (start0 a1).feed (l0.take c) = (K, M) := ⟨_, _, rfl⟩
        rw [hKM] at hsp hk hko
        dsimp only at hsp hk hko hle
        obtain ⟨S', N2, hM⟩ : ∃ S' N2, K.feed (l0.drop c) = (S', N2) := ⟨_, _, rfl⟩
        rw [hM] at hsp
        dsimp only at hsp
        obtain ⟨e1, e2⟩ := Prod.mk.inj hsp
        subst e1
        have hNM : wrap64 ((M : Int) + (N2 : Int)) = (N : Int) := by
          unfold wrap64
          omega
        have HM := Aside0.mk hM
        have HK := Aside0.mk hKM
        have HKE := Aside0.mk hk.1
        have HKO := Aside0.mk hko
        have HKD := Aside0.mk (show (K.err.isNone && K.at_ == 11) = false by
          rw [hk.1]
          simpa using hk.2)
        clear hsp hk hko hle hKM hM e2
        rcases hE : S.err with _ | x
        · have HE := Aside0.mk hE
          by_cases ha : S.at_ = 11
          · obtain rfl : true = D := by rw [← HD.out, hE, ha]; rfl
            have HX1 := Aside0.mk (feed_stop S (fun q => q.2 ha) [120])
            try rw [hE]
            try simp only [errW_none]
            clear hE ha
            go_upto_region 16 with (first
              | ((with_reducible refine gate_callee (f := 25) rfl ?_)
                 refine goesL_ (some 108) rfl rfl Tryd.func25 (by kernel_rfl) rfl #[.pointer (some ⟨g2, 0, none⟩), .slice Ay c cy] rfl (by (try simp only [List.map_toArray, List.map_cons, List.map_nil]); first | done | rfl) ?_
                 (with_reducible refine F4.out.mono ?_)
                 rintro e w6 ⟨v0, v1, he, hs⟩
                 rw [HK.out] at he hs
                 dsimp only at he hs
                 rw [HKD.out, HKE.out] at he
                 try simp only [errW_some, errW_none] at he
                 subst he
                 have T6 := Aside0.mk (T5.out.swap.left hs).swap
                 have B6 := Aside0.mk (B5.out.trans hs.chg.below)
                 have Y6 := Aside0.mk (row_keep rfl Y5.out T5.out.b hs.chg (by decide) (off_nil _).symm (off_nil _).symm)
                 have O6 := Aside0.mk (And.intro (off_new Y5.out hs.chg.row0 (off_nil _).symm) (off_new Y5.out hs.chg.row1 (off_nil _).symm))
                 clear hs
                 refine ⟨_, rfl, ?_⟩)
              | ((with_reducible refine gate_callee (f := 25) rfl ?_)
                 refine goesL_ (some 123) rfl rfl Tryd.func25 (by kernel_rfl) rfl #[.pointer (some ⟨g2, 0, none⟩), .slice Ad (l0.length - c) (cy - c)] rfl (by (try simp only [List.map_toArray, List.map_cons, List.map_nil]); first | done | rfl) ?_
                 (with_reducible refine (feed_callsD w.heap.size _ g2 K v0 v1 Ad (l0.drop c) (l0.length - c) (cy - c) List.length_drop (fun W' z0 z1 hc => CD.out W' (row_keep rfl Y6.out T6.out.b hc (by decide) O6.out.1 O6.out.2)) (by have := HN.out; omega) (fun x hx => HX.out x (List.mem_of_mem_drop hx)) HKO.out T6.out.b).mono ?_)
                 rintro e w7 ⟨v0, v1, he, hs⟩
                 rw [HM.out] at he hs
                 dsimp only at he hs
                 rw [HD.out, HE.out] at he
                 try simp only [errW_some, errW_none] at he
                 subst he
                 have T7 := Aside0.mk (T6.out.swap.left hs).swap
                 have B7 := Aside0.mk (B6.out.trans hs.chg.below)
                 clear hs
                 refine ⟨_, rfl, ?_⟩))
            rw [hNM]
            have T := T7
            have B := B7
            clear T7 B7 T6 B6 T5 B5 hNM
            go_upto_region 17 with (first
              | ((with_reducible refine gate_callee (f := 26) rfl ?_)
                 refine goesL_ (some 132) rfl rfl Tryd.func26 (by kernel_rfl) rfl #[.pointer (some ⟨g1, 0, none⟩)] rfl (by (try simp only [List.map_toArray, List.map_cons, List.map_nil]); first | done | rfl) ?_
                 (with_reducible refine (request_any w.heap.size _ g1 S u0 u1 T.out.a (by have := HFL.out; omega)).mono ?_)
                 rintro e y1 ⟨A1, c1, rfl, ho, hb⟩
                 have K1 := Aside0.mk (Held.new ho T.out.a #[.string S.reqM, .string S.reqT, .int .i64 S.reqN, .slice A1 S.reqF.length c1] 24 (by decide))
                 have hb2 := below_alloc hb (Obj.cells #[.string S.reqM, .string S.reqT, .int .i64 S.reqN, .slice A1 S.reqF.length c1] 24)
                 have B := Aside0.mk (below_step B.out hb2)
                 have T := Aside0.mk (T.out.on hb2)
                 clear ho hb hb2
                 refine ⟨_, rfl, ?_⟩))
            generalize y1.alloc (Obj.cells #[.string S.reqM, .string S.reqT, .int .i64 S.reqN, .slice A1 S.reqF.length c1] 24) = x1 at T B K1 ⊢
            generalize y1.heap.size = q1 at K1 ⊢
            go_upto_region 18 with (first
              | ((with_reducible refine gate_callee (f := 26) rfl ?_)
                 refine goesL_ (some 137) rfl rfl Tryd.func26 (by kernel_rfl) rfl #[.pointer (some ⟨g2, 0, none⟩)] rfl (by (try simp only [List.map_toArray, List.map_cons, List.map_nil]); first | done | rfl) ?_
                 (with_reducible refine (request_any w.heap.size _ g2 S v0 v1 T.out.b (by have := HFL.out; omega)).mono ?_)
                 rintro e y2 ⟨A2, c2, rfl, ho, hb⟩
                 have K2 := Aside0.mk (Held.new ho T.out.a #[.string S.reqM, .string S.reqT, .int .i64 S.reqN, .slice A2 S.reqF.length c2] 24 (by decide))
                 have hb2 := below_alloc hb (Obj.cells #[.string S.reqM, .string S.reqT, .int .i64 S.reqN, .slice A2 S.reqF.length c2] 24)
                 have B := Aside0.mk (below_step B.out hb2)
                 have K1 := Aside0.mk (K1.out.on hb2)
                 have T := Aside0.mk (T.out.on hb2)
                 clear ho hb hb2
                 refine ⟨_, rfl, ?_⟩))
            generalize y2.alloc (Obj.cells #[.string S.reqM, .string S.reqT, .int .i64 S.reqN, .slice A2 S.reqF.length c2] 24) = x2 at T B K1 K2 ⊢
            generalize y2.heap.size = q2 at K2 ⊢
            go_upto_region 19 with (first
              | ((with_reducible refine gate_callee (f := 27) rfl ?_)
                 refine goesL_ (some 142) rfl rfl Tryd.func27 (by kernel_rfl) rfl #[.pointer (some ⟨g1, 0, none⟩)] rfl (by (try simp only [List.map_toArray, List.map_cons, List.map_nil]); first | done | rfl) ?_
                 (with_reducible refine (response_any w.heap.size _ g1 S u0 u1 T.out.a (by have := HFL.out; omega)).mono ?_)
                 rintro e y3 ⟨A3, c3, rfl, ho, hb⟩
                 have K3 := Aside0.mk (Held.new ho T.out.a #[.int .i64 S.resS, .string S.resR, .int .i64 S.resN, .slice A3 S.resF.length c3] 26 (by decide))
                 have hb2 := below_alloc hb (Obj.cells #[.int .i64 S.resS, .string S.resR, .int .i64 S.resN, .slice A3 S.resF.length c3] 26)
                 have B := Aside0.mk (below_step B.out hb2)
                 have K1 := Aside0.mk (K1.out.on hb2)
                 have K2 := Aside0.mk (K2.out.on hb2)
                 have T := Aside0.mk (T.out.on hb2)
                 clear ho hb hb2
                 refine ⟨_, rfl, ?_⟩))
            generalize y3.alloc (Obj.cells #[.int .i64 S.resS, .string S.resR, .int .i64 S.resN, .slice A3 S.resF.length c3] 26) = x3 at T B K1 K2 K3 ⊢
            generalize y3.heap.size = q3 at K3 ⊢
            go_upto_region 20 with (first
              | ((with_reducible refine gate_callee (f := 27) rfl ?_)
                 refine goesL_ (some 147) rfl rfl Tryd.func27 (by kernel_rfl) rfl #[.pointer (some ⟨g2, 0, none⟩)] rfl (by (try simp only [List.map_toArray, List.map_cons, List.map_nil]); first | done | rfl) ?_
                 (with_reducible refine (response_any w.heap.size _ g2 S v0 v1 T.out.b (by have := HFL.out; omega)).mono ?_)
                 rintro e y4 ⟨A4, c4, rfl, ho, hb⟩
                 have K4 := Aside0.mk (Held.new ho T.out.a #[.int .i64 S.resS, .string S.resR, .int .i64 S.resN, .slice A4 S.resF.length c4] 26 (by decide))
                 have hb2 := below_alloc hb (Obj.cells #[.int .i64 S.resS, .string S.resR, .int .i64 S.resN, .slice A4 S.resF.length c4] 26)
                 have B := Aside0.mk (below_step B.out hb2)
                 have K1 := Aside0.mk (K1.out.on hb2)
                 have K2 := Aside0.mk (K2.out.on hb2)
                 have K3 := Aside0.mk (K3.out.on hb2)
                 have T := Aside0.mk (T.out.on hb2)
                 clear ho hb hb2
                 refine ⟨_, rfl, ?_⟩))
            generalize y4.alloc (Obj.cells #[.int .i64 S.resS, .string S.resR, .int .i64 S.resN, .slice A4 S.resF.length c4] 26) = x4 at T B K1 K2 K3 K4 ⊢
            generalize y4.heap.size = q4 at K4 ⊢
            have hcv := Go.Lib.run_convert_bytes_const (P := Tryd.prog) x4 27 5 #[.int .u8 120] 1 1 Tryd.underlying27 Tryd.underlying5
            go_upto_region 22 with (first
              | ((with_reducible refine gate_callee (f := 28) rfl ?_)
                 refine goesL_ (some 151) rfl rfl Tryd.func28 (by kernel_rfl) rfl #[.pointer (some ⟨g1, 0, none⟩)] rfl (by (try simp only [List.map_toArray, List.map_cons, List.map_nil]); first | done | rfl) ?_
                 (with_reducible refine (len_calls w.heap.size _ g1 S u0 u1 T.out.a).mono ?_)
                 rintro e w8 ⟨rfl, hw8⟩
                 subst w8
                 refine ⟨_, rfl, ?_⟩)
              | ((with_reducible refine gate_callee (f := 28) rfl ?_)
                 refine goesL_ (some 153) rfl rfl Tryd.func28 (by kernel_rfl) rfl #[.pointer (some ⟨g2, 0, none⟩)] rfl (by (try simp only [List.map_toArray, List.map_cons, List.map_nil]); first | done | rfl) ?_
                 (with_reducible refine (len_calls w.heap.size _ g2 S v0 v1 T.out.b).mono ?_)
                 rintro e w8 ⟨rfl, hw8⟩
                 subst w8
                 refine ⟨_, rfl, ?_⟩)
              | ((with_reducible refine gate_callee (f := 25) rfl ?_)
                 refine goesL_ (some 159) rfl rfl Tryd.func25 (by kernel_rfl) rfl #[.pointer (some ⟨g1, 0, none⟩), .slice (some ⟨x4.heap.size, 0, none⟩) 1 1] rfl (by (try simp only [List.map_toArray, List.map_cons, List.map_nil]); first | done | rfl) ?_
                 (with_reducible refine (feed_callsD w.heap.size _ g1 S u0 u1 (some ⟨x4.heap.size, 0, none⟩) [120] 1 1 rfl (x_reads T.out.a) (by omega) (by intro x hx; simp only [List.mem_singleton] at hx; subst hx; exact ⟨by decide, by decide⟩) HOK.out ((T.out.alloc _).a)).mono ?_)
                 rintro e w8 ⟨z0, z1, he, hs⟩
                 rw [HX1.out] at he hs
                 dsimp only at he hs
                 try rw [HD.out, HE.out] at he
                 try simp only [errW_some, errW_none] at he
                 subst he
                 have B := Aside0.mk ((below_alloc B.out _).trans hs.chg.below)
                 have K1 := Aside0.mk ((K1.out.on (below_alloc (Below.refl _ _) _)).fed (T.out.alloc _).a hs.chg)
                 have K2 := Aside0.mk ((K2.out.on (below_alloc (Below.refl _ _) _)).fed (T.out.alloc _).a hs.chg)
                 have K3 := Aside0.mk ((K3.out.on (below_alloc (Below.refl _ _) _)).fed (T.out.alloc _).a hs.chg)
                 have K4 := Aside0.mk ((K4.out.on (below_alloc (Below.refl _ _) _)).fed (T.out.alloc _).a hs.chg)
                 clear hs
                 refine ⟨_, rfl, ?_⟩))
            have q0 : ((((0 : Nat) : Int)) == 0) = true := rfl
            have Hrequests := Aside0.mk hkq
            have Hresponses := Aside0.mk hks
            clear hkq hks
            go_wp2_with (first
              | ((with_reducible refine gate_callee (f := 23) rfl ?_)
                 refine gate_guard (by rfl) ?_
                 dsimp only
                 refine goesL_ (some 179) rfl rfl Tryd.func23 (by kernel_rfl) rfl #[errW (none)] rfl (by (try simp only [List.map_toArray, List.map_cons, List.map_nil]); first | done | rfl) ?_
                 (with_reducible refine (turnstilelaw09_num.calls (none) _ _ (GlobE.below HGE.out B.out) rfl).mono ?_)
                 rintro e w9 ⟨rfl, hb⟩
                 have B := Aside0.mk (below_step B.out hb)
                 have K1 := Aside0.mk (K1.out.on hb)
                 have K2 := Aside0.mk (K2.out.on hb)
                 have K3 := Aside0.mk (K3.out.on hb)
                 have K4 := Aside0.mk (K4.out.on hb)
                 clear hb
                 refine ⟨_, rfl, ?_⟩)
              | ((with_reducible refine gate_callee (f := 23) rfl ?_)
                 refine gate_guard (by rfl) ?_
                 dsimp only
                 refine goesL_ (some 181) rfl rfl Tryd.func23 (by kernel_rfl) rfl #[errW (none)] rfl (by (try simp only [List.map_toArray, List.map_cons, List.map_nil]); first | done | rfl) ?_
                 (with_reducible refine (turnstilelaw09_num.calls (none) _ _ (GlobE.below HGE.out B.out) rfl).mono ?_)
                 rintro e w9 ⟨rfl, hb⟩
                 have B := Aside0.mk (below_step B.out hb)
                 have K1 := Aside0.mk (K1.out.on hb)
                 have K2 := Aside0.mk (K2.out.on hb)
                 have K3 := Aside0.mk (K3.out.on hb)
                 have K4 := Aside0.mk (K4.out.on hb)
                 clear hb
                 refine ⟨_, rfl, ?_⟩)
              | ((with_reducible refine gate_callee (f := 23) rfl ?_)
                 refine gate_guard (by rfl) ?_
                 dsimp only
                 refine goesL_ (some 195) rfl rfl Tryd.func23 (by kernel_rfl) rfl #[errW (none)] rfl (by (try simp only [List.map_toArray, List.map_cons, List.map_nil]); first | done | rfl) ?_
                 (with_reducible refine (turnstilelaw09_num.calls (none) _ _ (GlobE.below HGE.out B.out) rfl).mono ?_)
                 rintro e w9 ⟨rfl, hb⟩
                 have B := Aside0.mk (below_step B.out hb)
                 have K1 := Aside0.mk (K1.out.on hb)
                 have K2 := Aside0.mk (K2.out.on hb)
                 have K3 := Aside0.mk (K3.out.on hb)
                 have K4 := Aside0.mk (K4.out.on hb)
                 clear hb
                 refine ⟨_, rfl, ?_⟩)
              | ((with_reducible refine gate_callee (f := 23) rfl ?_)
                 refine gate_guard (by rfl) ?_
                 dsimp only
                 refine goesL_ (some 197) rfl rfl Tryd.func23 (by kernel_rfl) rfl #[errW (none)] rfl (by (try simp only [List.map_toArray, List.map_cons, List.map_nil]); first | done | rfl) ?_
                 (with_reducible refine (turnstilelaw09_num.calls (none) _ _ (GlobE.below HGE.out B.out) rfl).mono ?_)
                 rintro e w9 ⟨rfl, hb⟩
                 have B := Aside0.mk (below_step B.out hb)
                 have K1 := Aside0.mk (K1.out.on hb)
                 have K2 := Aside0.mk (K2.out.on hb)
                 have K3 := Aside0.mk (K3.out.on hb)
                 have K4 := Aside0.mk (K4.out.on hb)
                 have b1_0 := (blk_cell K1.out.box 0).trans (show _ = some _ from rfl)
                 have f1_0 := blk_frozen K1.out.box 0
                 have b1_1 := (blk_cell K1.out.box 1).trans (show _ = some _ from rfl)
                 have f1_1 := blk_frozen K1.out.box 1
                 have b1_2 := (blk_cell K1.out.box 2).trans (show _ = some _ from rfl)
                 have f1_2 := blk_frozen K1.out.box 2
                 have b1_3 := (blk_cell K1.out.box 3).trans (show _ = some _ from rfl)
                 have f1_3 := blk_frozen K1.out.box 3
                 have b2_0 := (blk_cell K2.out.box 0).trans (show _ = some _ from rfl)
                 have f2_0 := blk_frozen K2.out.box 0
                 have b2_1 := (blk_cell K2.out.box 1).trans (show _ = some _ from rfl)
                 have f2_1 := blk_frozen K2.out.box 1
                 have b2_2 := (blk_cell K2.out.box 2).trans (show _ = some _ from rfl)
                 have f2_2 := blk_frozen K2.out.box 2
                 have b2_3 := (blk_cell K2.out.box 3).trans (show _ = some _ from rfl)
                 have f2_3 := blk_frozen K2.out.box 3
                 clear hb
                 refine ⟨_, rfl, ?_⟩)
              | ((with_reducible refine gate_callee (f := 14) rfl ?_)
                 refine gate_guard (by rfl) ?_
                 dsimp only
                 refine goesL_ (some 206) rfl rfl Tryd.func14 (by kernel_rfl) rfl #[.agg #[.string S.reqM, .string S.reqT, .int .i64 S.reqN, .slice A1 S.reqF.length c1], .agg #[.string S.reqM, .string S.reqT, .int .i64 S.reqN, .slice A2 S.reqF.length c2]] rfl (by (try simp only [List.map_toArray, List.map_cons, List.map_nil]); first | done | rfl) ?_
                 (with_reducible refine (turnstilelaw09_requests.calls _ S.reqM S.reqT S.reqN A1 c1 S.reqF S.reqM S.reqT S.reqN A2 c2 S.reqF true _ (Kd.R_reads' K1.out.row).2.2 (Kd.R_reads' K1.out.row).2.1 (Kd.R_reads' K2.out.row).2.2 (Kd.R_reads' K2.out.row).2.1 Hrequests.out).mono ?_)
                 rintro e w9 ⟨rfl, hb⟩
                 have B := Aside0.mk (below_step B.out hb)
                 have K1 := Aside0.mk (K1.out.on hb)
                 have K2 := Aside0.mk (K2.out.on hb)
                 have K3 := Aside0.mk (K3.out.on hb)
                 have K4 := Aside0.mk (K4.out.on hb)
                 clear hb
                 refine ⟨_, rfl, ?_⟩)
              | ((with_reducible refine gate_callee (f := 23) rfl ?_)
                 refine gate_guard (by rfl) ?_
                 dsimp only
                 refine goesL_ (some 210) rfl rfl Tryd.func23 (by kernel_rfl) rfl #[errW (S.reqE)] rfl (by (try simp only [List.map_toArray, List.map_cons, List.map_nil]); first | done | rfl) ?_
                 (with_reducible refine (turnstilelaw09_num.calls (S.reqE) _ _ (GlobE.below HGE.out B.out) rfl).mono ?_)
                 rintro e w9 ⟨rfl, hb⟩
                 have B := Aside0.mk (below_step B.out hb)
                 have K1 := Aside0.mk (K1.out.on hb)
                 have K2 := Aside0.mk (K2.out.on hb)
                 have K3 := Aside0.mk (K3.out.on hb)
                 have K4 := Aside0.mk (K4.out.on hb)
                 clear hb
                 refine ⟨_, rfl, ?_⟩)
              | ((with_reducible refine gate_callee (f := 23) rfl ?_)
                 refine gate_guard (by rfl) ?_
                 dsimp only
                 refine goesL_ (some 212) rfl rfl Tryd.func23 (by kernel_rfl) rfl #[errW (S.reqE)] rfl (by (try simp only [List.map_toArray, List.map_cons, List.map_nil]); first | done | rfl) ?_
                 (with_reducible refine (turnstilelaw09_num.calls (S.reqE) _ _ (GlobE.below HGE.out B.out) rfl).mono ?_)
                 rintro e w9 ⟨rfl, hb⟩
                 have B := Aside0.mk (below_step B.out hb)
                 have K1 := Aside0.mk (K1.out.on hb)
                 have K2 := Aside0.mk (K2.out.on hb)
                 have K3 := Aside0.mk (K3.out.on hb)
                 have K4 := Aside0.mk (K4.out.on hb)
                 have b3_0 := (blk_cell K3.out.box 0).trans (show _ = some _ from rfl)
                 have f3_0 := blk_frozen K3.out.box 0
                 have b3_1 := (blk_cell K3.out.box 1).trans (show _ = some _ from rfl)
                 have f3_1 := blk_frozen K3.out.box 1
                 have b3_2 := (blk_cell K3.out.box 2).trans (show _ = some _ from rfl)
                 have f3_2 := blk_frozen K3.out.box 2
                 have b3_3 := (blk_cell K3.out.box 3).trans (show _ = some _ from rfl)
                 have f3_3 := blk_frozen K3.out.box 3
                 have b4_0 := (blk_cell K4.out.box 0).trans (show _ = some _ from rfl)
                 have f4_0 := blk_frozen K4.out.box 0
                 have b4_1 := (blk_cell K4.out.box 1).trans (show _ = some _ from rfl)
                 have f4_1 := blk_frozen K4.out.box 1
                 have b4_2 := (blk_cell K4.out.box 2).trans (show _ = some _ from rfl)
                 have f4_2 := blk_frozen K4.out.box 2
                 have b4_3 := (blk_cell K4.out.box 3).trans (show _ = some _ from rfl)
                 have f4_3 := blk_frozen K4.out.box 3
                 clear hb
                 refine ⟨_, rfl, ?_⟩)
              | ((with_reducible refine gate_callee (f := 17) rfl ?_)
                 refine gate_guard (by rfl) ?_
                 dsimp only
                 refine goesL_ (some 218) rfl rfl Tryd.func17 (by kernel_rfl) rfl #[.agg #[.int .i64 S.resS, .string S.resR, .int .i64 S.resN, .slice A3 S.resF.length c3], .agg #[.int .i64 S.resS, .string S.resR, .int .i64 S.resN, .slice A4 S.resF.length c4]] rfl (by (try simp only [List.map_toArray, List.map_cons, List.map_nil]); first | done | rfl) ?_
                 (with_reducible refine (turnstilelaw09_responses.calls _ S.resS S.resR S.resN A3 c3 S.resF S.resS S.resR S.resN A4 c4 S.resF true _ (Kd.R_reads' K3.out.row).2.2 (Kd.R_reads' K3.out.row).2.1 (Kd.R_reads' K4.out.row).2.2 (Kd.R_reads' K4.out.row).2.1 Hresponses.out).mono ?_)
                 rintro e w9 ⟨rfl, hb⟩
                 have B := Aside0.mk (below_step B.out hb)
                 have K1 := Aside0.mk (K1.out.on hb)
                 have K2 := Aside0.mk (K2.out.on hb)
                 have K3 := Aside0.mk (K3.out.on hb)
                 have K4 := Aside0.mk (K4.out.on hb)
                 clear hb
                 refine ⟨_, rfl, ?_⟩)
              | ((with_reducible refine gate_callee (f := 23) rfl ?_)
                 refine gate_guard (by rfl) ?_
                 dsimp only
                 refine goesL_ (some 222) rfl rfl Tryd.func23 (by kernel_rfl) rfl #[errW (S.resE)] rfl (by (try simp only [List.map_toArray, List.map_cons, List.map_nil]); first | done | rfl) ?_
                 (with_reducible refine (turnstilelaw09_num.calls (S.resE) _ _ (GlobE.below HGE.out B.out) rfl).mono ?_)
                 rintro e w9 ⟨rfl, hb⟩
                 have B := Aside0.mk (below_step B.out hb)
                 have K1 := Aside0.mk (K1.out.on hb)
                 have K2 := Aside0.mk (K2.out.on hb)
                 have K3 := Aside0.mk (K3.out.on hb)
                 have K4 := Aside0.mk (K4.out.on hb)
                 clear hb
                 refine ⟨_, rfl, ?_⟩)
              | ((with_reducible refine gate_callee (f := 23) rfl ?_)
                 refine gate_guard (by rfl) ?_
                 dsimp only
                 refine goesL_ (some 224) rfl rfl Tryd.func23 (by kernel_rfl) rfl #[errW (S.resE)] rfl (by (try simp only [List.map_toArray, List.map_cons, List.map_nil]); first | done | rfl) ?_
                 (with_reducible refine (turnstilelaw09_num.calls (S.resE) _ _ (GlobE.below HGE.out B.out) rfl).mono ?_)
                 rintro e w9 ⟨rfl, hb⟩
                 have B := Aside0.mk (below_step B.out hb)
                 have K1 := Aside0.mk (K1.out.on hb)
                 have K2 := Aside0.mk (K2.out.on hb)
                 have K3 := Aside0.mk (K3.out.on hb)
                 have K4 := Aside0.mk (K4.out.on hb)
                 clear hb
                 refine ⟨_, rfl, ?_⟩)
              | ((with_reducible refine gate_callee (f := 18) rfl ?_)
                 refine gate_guard (by rfl) ?_
                 dsimp only
                 refine goesL_ (some 231) rfl rfl Tryd.func18 (by kernel_rfl) rfl #[] rfl (by (try simp only [List.map_toArray, List.map_cons, List.map_nil]); first | done | rfl) ?_
                 (with_reducible refine (turnstilelaw09_sure.calls true _ rfl).mono ?_)
                 rintro e w9 ⟨rfl, hb⟩
                 refine ⟨_, rfl, ?_⟩
                 have BZ := Aside0.mk (below_step B.out hb)
                 clear hb))
            go_ret
            exact ⟨rfl, BZ.out⟩
          · obtain rfl : false = D := by rw [← HD.out, hE]; simpa using ha
            obtain ⟨S2, n2, hx1⟩ : ∃ S2 n2, S.feed [120] = (S2, n2) := ⟨_, _, rfl⟩
            have HX1 := Aside0.mk hx1
            try rw [hE]
            try simp only [errW_none]
            clear hE ha hx1
            go_upto_region 16 with (first
              | ((with_reducible refine gate_callee (f := 25) rfl ?_)
                 refine goesL_ (some 108) rfl rfl Tryd.func25 (by kernel_rfl) rfl #[.pointer (some ⟨g2, 0, none⟩), .slice Ay c cy] rfl (by (try simp only [List.map_toArray, List.map_cons, List.map_nil]); first | done | rfl) ?_
                 (with_reducible refine F4.out.mono ?_)
                 rintro e w6 ⟨v0, v1, he, hs⟩
                 rw [HK.out] at he hs
                 dsimp only at he hs
                 rw [HKD.out, HKE.out] at he
                 try simp only [errW_some, errW_none] at he
                 subst he
                 have T6 := Aside0.mk (T5.out.swap.left hs).swap
                 have B6 := Aside0.mk (B5.out.trans hs.chg.below)
                 have Y6 := Aside0.mk (row_keep rfl Y5.out T5.out.b hs.chg (by decide) (off_nil _).symm (off_nil _).symm)
                 have O6 := Aside0.mk (And.intro (off_new Y5.out hs.chg.row0 (off_nil _).symm) (off_new Y5.out hs.chg.row1 (off_nil _).symm))
                 clear hs
                 refine ⟨_, rfl, ?_⟩)
              | ((with_reducible refine gate_callee (f := 25) rfl ?_)
                 refine goesL_ (some 123) rfl rfl Tryd.func25 (by kernel_rfl) rfl #[.pointer (some ⟨g2, 0, none⟩), .slice Ad (l0.length - c) (cy - c)] rfl (by (try simp only [List.map_toArray, List.map_cons, List.map_nil]); first | done | rfl) ?_
                 (with_reducible refine (feed_callsD w.heap.size _ g2 K v0 v1 Ad (l0.drop c) (l0.length - c) (cy - c) List.length_drop (fun W' z0 z1 hc => CD.out W' (row_keep rfl Y6.out T6.out.b hc (by decide) O6.out.1 O6.out.2)) (by have := HN.out; omega) (fun x hx => HX.out x (List.mem_of_mem_drop hx)) HKO.out T6.out.b).mono ?_)
                 rintro e w7 ⟨v0, v1, he, hs⟩
                 rw [HM.out] at he hs
                 dsimp only at he hs
                 rw [HD.out, HE.out] at he
                 try simp only [errW_some, errW_none] at he
                 subst he
                 have T7 := Aside0.mk (T6.out.swap.left hs).swap
                 have B7 := Aside0.mk (B6.out.trans hs.chg.below)
                 clear hs
                 refine ⟨_, rfl, ?_⟩))
            rw [hNM]
            have T := T7
            have B := B7
            clear T7 B7 T6 B6 T5 B5 hNM
            go_upto_region 17 with (first
              | ((with_reducible refine gate_callee (f := 26) rfl ?_)
                 refine goesL_ (some 132) rfl rfl Tryd.func26 (by kernel_rfl) rfl #[.pointer (some ⟨g1, 0, none⟩)] rfl (by (try simp only [List.map_toArray, List.map_cons, List.map_nil]); first | done | rfl) ?_
                 (with_reducible refine (request_any w.heap.size _ g1 S u0 u1 T.out.a (by have := HFL.out; omega)).mono ?_)
                 rintro e y1 ⟨A1, c1, rfl, ho, hb⟩
                 have K1 := Aside0.mk (Held.new ho T.out.a #[.string S.reqM, .string S.reqT, .int .i64 S.reqN, .slice A1 S.reqF.length c1] 24 (by decide))
                 have hb2 := below_alloc hb (Obj.cells #[.string S.reqM, .string S.reqT, .int .i64 S.reqN, .slice A1 S.reqF.length c1] 24)
                 have B := Aside0.mk (below_step B.out hb2)
                 have T := Aside0.mk (T.out.on hb2)
                 clear ho hb hb2
                 refine ⟨_, rfl, ?_⟩))
            generalize y1.alloc (Obj.cells #[.string S.reqM, .string S.reqT, .int .i64 S.reqN, .slice A1 S.reqF.length c1] 24) = x1 at T B K1 ⊢
            generalize y1.heap.size = q1 at K1 ⊢
            go_upto_region 18 with (first
              | ((with_reducible refine gate_callee (f := 26) rfl ?_)
                 refine goesL_ (some 137) rfl rfl Tryd.func26 (by kernel_rfl) rfl #[.pointer (some ⟨g2, 0, none⟩)] rfl (by (try simp only [List.map_toArray, List.map_cons, List.map_nil]); first | done | rfl) ?_
                 (with_reducible refine (request_any w.heap.size _ g2 S v0 v1 T.out.b (by have := HFL.out; omega)).mono ?_)
                 rintro e y2 ⟨A2, c2, rfl, ho, hb⟩
                 have K2 := Aside0.mk (Held.new ho T.out.a #[.string S.reqM, .string S.reqT, .int .i64 S.reqN, .slice A2 S.reqF.length c2] 24 (by decide))
                 have hb2 := below_alloc hb (Obj.cells #[.string S.reqM, .string S.reqT, .int .i64 S.reqN, .slice A2 S.reqF.length c2] 24)
                 have B := Aside0.mk (below_step B.out hb2)
                 have K1 := Aside0.mk (K1.out.on hb2)
                 have T := Aside0.mk (T.out.on hb2)
                 clear ho hb hb2
                 refine ⟨_, rfl, ?_⟩))
            generalize y2.alloc (Obj.cells #[.string S.reqM, .string S.reqT, .int .i64 S.reqN, .slice A2 S.reqF.length c2] 24) = x2 at T B K1 K2 ⊢
            generalize y2.heap.size = q2 at K2 ⊢
            go_upto_region 19 with (first
              | ((with_reducible refine gate_callee (f := 27) rfl ?_)
                 refine goesL_ (some 142) rfl rfl Tryd.func27 (by kernel_rfl) rfl #[.pointer (some ⟨g1, 0, none⟩)] rfl (by (try simp only [List.map_toArray, List.map_cons, List.map_nil]); first | done | rfl) ?_
                 (with_reducible refine (response_any w.heap.size _ g1 S u0 u1 T.out.a (by have := HFL.out; omega)).mono ?_)
                 rintro e y3 ⟨A3, c3, rfl, ho, hb⟩
                 have K3 := Aside0.mk (Held.new ho T.out.a #[.int .i64 S.resS, .string S.resR, .int .i64 S.resN, .slice A3 S.resF.length c3] 26 (by decide))
                 have hb2 := below_alloc hb (Obj.cells #[.int .i64 S.resS, .string S.resR, .int .i64 S.resN, .slice A3 S.resF.length c3] 26)
                 have B := Aside0.mk (below_step B.out hb2)
                 have K1 := Aside0.mk (K1.out.on hb2)
                 have K2 := Aside0.mk (K2.out.on hb2)
                 have T := Aside0.mk (T.out.on hb2)
                 clear ho hb hb2
                 refine ⟨_, rfl, ?_⟩))
            generalize y3.alloc (Obj.cells #[.int .i64 S.resS, .string S.resR, .int .i64 S.resN, .slice A3 S.resF.length c3] 26) = x3 at T B K1 K2 K3 ⊢
            generalize y3.heap.size = q3 at K3 ⊢
            go_upto_region 20 with (first
              | ((with_reducible refine gate_callee (f := 27) rfl ?_)
                 refine goesL_ (some 147) rfl rfl Tryd.func27 (by kernel_rfl) rfl #[.pointer (some ⟨g2, 0, none⟩)] rfl (by (try simp only [List.map_toArray, List.map_cons, List.map_nil]); first | done | rfl) ?_
                 (with_reducible refine (response_any w.heap.size _ g2 S v0 v1 T.out.b (by have := HFL.out; omega)).mono ?_)
                 rintro e y4 ⟨A4, c4, rfl, ho, hb⟩
                 have K4 := Aside0.mk (Held.new ho T.out.a #[.int .i64 S.resS, .string S.resR, .int .i64 S.resN, .slice A4 S.resF.length c4] 26 (by decide))
                 have hb2 := below_alloc hb (Obj.cells #[.int .i64 S.resS, .string S.resR, .int .i64 S.resN, .slice A4 S.resF.length c4] 26)
                 have B := Aside0.mk (below_step B.out hb2)
                 have K1 := Aside0.mk (K1.out.on hb2)
                 have K2 := Aside0.mk (K2.out.on hb2)
                 have K3 := Aside0.mk (K3.out.on hb2)
                 have T := Aside0.mk (T.out.on hb2)
                 clear ho hb hb2
                 refine ⟨_, rfl, ?_⟩))
            generalize y4.alloc (Obj.cells #[.int .i64 S.resS, .string S.resR, .int .i64 S.resN, .slice A4 S.resF.length c4] 26) = x4 at T B K1 K2 K3 K4 ⊢
            generalize y4.heap.size = q4 at K4 ⊢
            have hcv := Go.Lib.run_convert_bytes_const (P := Tryd.prog) x4 27 5 #[.int .u8 120] 1 1 Tryd.underlying27 Tryd.underlying5
            go_upto_region 22 with (first
              | ((with_reducible refine gate_callee (f := 28) rfl ?_)
                 refine goesL_ (some 151) rfl rfl Tryd.func28 (by kernel_rfl) rfl #[.pointer (some ⟨g1, 0, none⟩)] rfl (by (try simp only [List.map_toArray, List.map_cons, List.map_nil]); first | done | rfl) ?_
                 (with_reducible refine (len_calls w.heap.size _ g1 S u0 u1 T.out.a).mono ?_)
                 rintro e w8 ⟨rfl, hw8⟩
                 subst w8
                 refine ⟨_, rfl, ?_⟩)
              | ((with_reducible refine gate_callee (f := 28) rfl ?_)
                 refine goesL_ (some 153) rfl rfl Tryd.func28 (by kernel_rfl) rfl #[.pointer (some ⟨g2, 0, none⟩)] rfl (by (try simp only [List.map_toArray, List.map_cons, List.map_nil]); first | done | rfl) ?_
                 (with_reducible refine (len_calls w.heap.size _ g2 S v0 v1 T.out.b).mono ?_)
                 rintro e w8 ⟨rfl, hw8⟩
                 subst w8
                 refine ⟨_, rfl, ?_⟩)
              | ((with_reducible refine gate_callee (f := 25) rfl ?_)
                 refine goesL_ (some 159) rfl rfl Tryd.func25 (by kernel_rfl) rfl #[.pointer (some ⟨g1, 0, none⟩), .slice (some ⟨x4.heap.size, 0, none⟩) 1 1] rfl (by (try simp only [List.map_toArray, List.map_cons, List.map_nil]); first | done | rfl) ?_
                 (with_reducible refine (feed_callsD w.heap.size _ g1 S u0 u1 (some ⟨x4.heap.size, 0, none⟩) [120] 1 1 rfl (x_reads T.out.a) (by omega) (by intro x hx; simp only [List.mem_singleton] at hx; subst hx; exact ⟨by decide, by decide⟩) HOK.out ((T.out.alloc _).a)).mono ?_)
                 rintro e w8 ⟨z0, z1, he, hs⟩
                 rw [HX1.out] at he hs
                 dsimp only at he hs
                 try rw [HD.out, HE.out] at he
                 try simp only [errW_some, errW_none] at he
                 subst he
                 have B := Aside0.mk ((below_alloc B.out _).trans hs.chg.below)
                 have K1 := Aside0.mk ((K1.out.on (below_alloc (Below.refl _ _) _)).fed (T.out.alloc _).a hs.chg)
                 have K2 := Aside0.mk ((K2.out.on (below_alloc (Below.refl _ _) _)).fed (T.out.alloc _).a hs.chg)
                 have K3 := Aside0.mk ((K3.out.on (below_alloc (Below.refl _ _) _)).fed (T.out.alloc _).a hs.chg)
                 have K4 := Aside0.mk ((K4.out.on (below_alloc (Below.refl _ _) _)).fed (T.out.alloc _).a hs.chg)
                 clear hs
                 refine ⟨_, rfl, ?_⟩))
            have q0 : ((((0 : Nat) : Int)) == 0) = true := rfl
            have Hrequests := Aside0.mk hkq
            have Hresponses := Aside0.mk hks
            clear hkq hks
            go_wp2_with (first
              | ((with_reducible refine gate_callee (f := 23) rfl ?_)
                 refine gate_guard (by rfl) ?_
                 dsimp only
                 refine goesL_ (some 179) rfl rfl Tryd.func23 (by kernel_rfl) rfl #[errW (none)] rfl (by (try simp only [List.map_toArray, List.map_cons, List.map_nil]); first | done | rfl) ?_
                 (with_reducible refine (turnstilelaw09_num.calls (none) _ _ (GlobE.below HGE.out B.out) rfl).mono ?_)
                 rintro e w9 ⟨rfl, hb⟩
                 have B := Aside0.mk (below_step B.out hb)
                 have K1 := Aside0.mk (K1.out.on hb)
                 have K2 := Aside0.mk (K2.out.on hb)
                 have K3 := Aside0.mk (K3.out.on hb)
                 have K4 := Aside0.mk (K4.out.on hb)
                 clear hb
                 refine ⟨_, rfl, ?_⟩)
              | ((with_reducible refine gate_callee (f := 23) rfl ?_)
                 refine gate_guard (by rfl) ?_
                 dsimp only
                 refine goesL_ (some 181) rfl rfl Tryd.func23 (by kernel_rfl) rfl #[errW (none)] rfl (by (try simp only [List.map_toArray, List.map_cons, List.map_nil]); first | done | rfl) ?_
                 (with_reducible refine (turnstilelaw09_num.calls (none) _ _ (GlobE.below HGE.out B.out) rfl).mono ?_)
                 rintro e w9 ⟨rfl, hb⟩
                 have B := Aside0.mk (below_step B.out hb)
                 have K1 := Aside0.mk (K1.out.on hb)
                 have K2 := Aside0.mk (K2.out.on hb)
                 have K3 := Aside0.mk (K3.out.on hb)
                 have K4 := Aside0.mk (K4.out.on hb)
                 clear hb
                 refine ⟨_, rfl, ?_⟩)
              | ((with_reducible refine gate_callee (f := 23) rfl ?_)
                 refine gate_guard (by rfl) ?_
                 dsimp only
                 refine goesL_ (some 195) rfl rfl Tryd.func23 (by kernel_rfl) rfl #[errW (none)] rfl (by (try simp only [List.map_toArray, List.map_cons, List.map_nil]); first | done | rfl) ?_
                 (with_reducible refine (turnstilelaw09_num.calls (none) _ _ (GlobE.below HGE.out B.out) rfl).mono ?_)
                 rintro e w9 ⟨rfl, hb⟩
                 have B := Aside0.mk (below_step B.out hb)
                 have K1 := Aside0.mk (K1.out.on hb)
                 have K2 := Aside0.mk (K2.out.on hb)
                 have K3 := Aside0.mk (K3.out.on hb)
                 have K4 := Aside0.mk (K4.out.on hb)
                 clear hb
                 refine ⟨_, rfl, ?_⟩)
              | ((with_reducible refine gate_callee (f := 23) rfl ?_)
                 refine gate_guard (by rfl) ?_
                 dsimp only
                 refine goesL_ (some 197) rfl rfl Tryd.func23 (by kernel_rfl) rfl #[errW (none)] rfl (by (try simp only [List.map_toArray, List.map_cons, List.map_nil]); first | done | rfl) ?_
                 (with_reducible refine (turnstilelaw09_num.calls (none) _ _ (GlobE.below HGE.out B.out) rfl).mono ?_)
                 rintro e w9 ⟨rfl, hb⟩
                 have B := Aside0.mk (below_step B.out hb)
                 have K1 := Aside0.mk (K1.out.on hb)
                 have K2 := Aside0.mk (K2.out.on hb)
                 have K3 := Aside0.mk (K3.out.on hb)
                 have K4 := Aside0.mk (K4.out.on hb)
                 have b1_0 := (blk_cell K1.out.box 0).trans (show _ = some _ from rfl)
                 have f1_0 := blk_frozen K1.out.box 0
                 have b1_1 := (blk_cell K1.out.box 1).trans (show _ = some _ from rfl)
                 have f1_1 := blk_frozen K1.out.box 1
                 have b1_2 := (blk_cell K1.out.box 2).trans (show _ = some _ from rfl)
                 have f1_2 := blk_frozen K1.out.box 2
                 have b1_3 := (blk_cell K1.out.box 3).trans (show _ = some _ from rfl)
                 have f1_3 := blk_frozen K1.out.box 3
                 have b2_0 := (blk_cell K2.out.box 0).trans (show _ = some _ from rfl)
                 have f2_0 := blk_frozen K2.out.box 0
                 have b2_1 := (blk_cell K2.out.box 1).trans (show _ = some _ from rfl)
                 have f2_1 := blk_frozen K2.out.box 1
                 have b2_2 := (blk_cell K2.out.box 2).trans (show _ = some _ from rfl)
                 have f2_2 := blk_frozen K2.out.box 2
                 have b2_3 := (blk_cell K2.out.box 3).trans (show _ = some _ from rfl)
                 have f2_3 := blk_frozen K2.out.box 3
                 clear hb
                 refine ⟨_, rfl, ?_⟩)
              | ((with_reducible refine gate_callee (f := 14) rfl ?_)
                 refine gate_guard (by rfl) ?_
                 dsimp only
                 refine goesL_ (some 206) rfl rfl Tryd.func14 (by kernel_rfl) rfl #[.agg #[.string S.reqM, .string S.reqT, .int .i64 S.reqN, .slice A1 S.reqF.length c1], .agg #[.string S.reqM, .string S.reqT, .int .i64 S.reqN, .slice A2 S.reqF.length c2]] rfl (by (try simp only [List.map_toArray, List.map_cons, List.map_nil]); first | done | rfl) ?_
                 (with_reducible refine (turnstilelaw09_requests.calls _ S.reqM S.reqT S.reqN A1 c1 S.reqF S.reqM S.reqT S.reqN A2 c2 S.reqF true _ (Kd.R_reads' K1.out.row).2.2 (Kd.R_reads' K1.out.row).2.1 (Kd.R_reads' K2.out.row).2.2 (Kd.R_reads' K2.out.row).2.1 Hrequests.out).mono ?_)
                 rintro e w9 ⟨rfl, hb⟩
                 have B := Aside0.mk (below_step B.out hb)
                 have K1 := Aside0.mk (K1.out.on hb)
                 have K2 := Aside0.mk (K2.out.on hb)
                 have K3 := Aside0.mk (K3.out.on hb)
                 have K4 := Aside0.mk (K4.out.on hb)
                 clear hb
                 refine ⟨_, rfl, ?_⟩)
              | ((with_reducible refine gate_callee (f := 23) rfl ?_)
                 refine gate_guard (by rfl) ?_
                 dsimp only
                 refine goesL_ (some 210) rfl rfl Tryd.func23 (by kernel_rfl) rfl #[errW (S.reqE)] rfl (by (try simp only [List.map_toArray, List.map_cons, List.map_nil]); first | done | rfl) ?_
                 (with_reducible refine (turnstilelaw09_num.calls (S.reqE) _ _ (GlobE.below HGE.out B.out) rfl).mono ?_)
                 rintro e w9 ⟨rfl, hb⟩
                 have B := Aside0.mk (below_step B.out hb)
                 have K1 := Aside0.mk (K1.out.on hb)
                 have K2 := Aside0.mk (K2.out.on hb)
                 have K3 := Aside0.mk (K3.out.on hb)
                 have K4 := Aside0.mk (K4.out.on hb)
                 clear hb
                 refine ⟨_, rfl, ?_⟩)
              | ((with_reducible refine gate_callee (f := 23) rfl ?_)
                 refine gate_guard (by rfl) ?_
                 dsimp only
                 refine goesL_ (some 212) rfl rfl Tryd.func23 (by kernel_rfl) rfl #[errW (S.reqE)] rfl (by (try simp only [List.map_toArray, List.map_cons, List.map_nil]); first | done | rfl) ?_
                 (with_reducible refine (turnstilelaw09_num.calls (S.reqE) _ _ (GlobE.below HGE.out B.out) rfl).mono ?_)
                 rintro e w9 ⟨rfl, hb⟩
                 have B := Aside0.mk (below_step B.out hb)
                 have K1 := Aside0.mk (K1.out.on hb)
                 have K2 := Aside0.mk (K2.out.on hb)
                 have K3 := Aside0.mk (K3.out.on hb)
                 have K4 := Aside0.mk (K4.out.on hb)
                 have b3_0 := (blk_cell K3.out.box 0).trans (show _ = some _ from rfl)
                 have f3_0 := blk_frozen K3.out.box 0
                 have b3_1 := (blk_cell K3.out.box 1).trans (show _ = some _ from rfl)
                 have f3_1 := blk_frozen K3.out.box 1
                 have b3_2 := (blk_cell K3.out.box 2).trans (show _ = some _ from rfl)
                 have f3_2 := blk_frozen K3.out.box 2
                 have b3_3 := (blk_cell K3.out.box 3).trans (show _ = some _ from rfl)
                 have f3_3 := blk_frozen K3.out.box 3
                 have b4_0 := (blk_cell K4.out.box 0).trans (show _ = some _ from rfl)
                 have f4_0 := blk_frozen K4.out.box 0
                 have b4_1 := (blk_cell K4.out.box 1).trans (show _ = some _ from rfl)
                 have f4_1 := blk_frozen K4.out.box 1
                 have b4_2 := (blk_cell K4.out.box 2).trans (show _ = some _ from rfl)
                 have f4_2 := blk_frozen K4.out.box 2
                 have b4_3 := (blk_cell K4.out.box 3).trans (show _ = some _ from rfl)
                 have f4_3 := blk_frozen K4.out.box 3
                 clear hb
                 refine ⟨_, rfl, ?_⟩)
              | ((with_reducible refine gate_callee (f := 17) rfl ?_)
                 refine gate_guard (by rfl) ?_
                 dsimp only
                 refine goesL_ (some 218) rfl rfl Tryd.func17 (by kernel_rfl) rfl #[.agg #[.int .i64 S.resS, .string S.resR, .int .i64 S.resN, .slice A3 S.resF.length c3], .agg #[.int .i64 S.resS, .string S.resR, .int .i64 S.resN, .slice A4 S.resF.length c4]] rfl (by (try simp only [List.map_toArray, List.map_cons, List.map_nil]); first | done | rfl) ?_
                 (with_reducible refine (turnstilelaw09_responses.calls _ S.resS S.resR S.resN A3 c3 S.resF S.resS S.resR S.resN A4 c4 S.resF true _ (Kd.R_reads' K3.out.row).2.2 (Kd.R_reads' K3.out.row).2.1 (Kd.R_reads' K4.out.row).2.2 (Kd.R_reads' K4.out.row).2.1 Hresponses.out).mono ?_)
                 rintro e w9 ⟨rfl, hb⟩
                 have B := Aside0.mk (below_step B.out hb)
                 have K1 := Aside0.mk (K1.out.on hb)
                 have K2 := Aside0.mk (K2.out.on hb)
                 have K3 := Aside0.mk (K3.out.on hb)
                 have K4 := Aside0.mk (K4.out.on hb)
                 clear hb
                 refine ⟨_, rfl, ?_⟩)
              | ((with_reducible refine gate_callee (f := 23) rfl ?_)
                 refine gate_guard (by rfl) ?_
                 dsimp only
                 refine goesL_ (some 222) rfl rfl Tryd.func23 (by kernel_rfl) rfl #[errW (S.resE)] rfl (by (try simp only [List.map_toArray, List.map_cons, List.map_nil]); first | done | rfl) ?_
                 (with_reducible refine (turnstilelaw09_num.calls (S.resE) _ _ (GlobE.below HGE.out B.out) rfl).mono ?_)
                 rintro e w9 ⟨rfl, hb⟩
                 have B := Aside0.mk (below_step B.out hb)
                 have K1 := Aside0.mk (K1.out.on hb)
                 have K2 := Aside0.mk (K2.out.on hb)
                 have K3 := Aside0.mk (K3.out.on hb)
                 have K4 := Aside0.mk (K4.out.on hb)
                 clear hb
                 refine ⟨_, rfl, ?_⟩)
              | ((with_reducible refine gate_callee (f := 23) rfl ?_)
                 refine gate_guard (by rfl) ?_
                 dsimp only
                 refine goesL_ (some 224) rfl rfl Tryd.func23 (by kernel_rfl) rfl #[errW (S.resE)] rfl (by (try simp only [List.map_toArray, List.map_cons, List.map_nil]); first | done | rfl) ?_
                 (with_reducible refine (turnstilelaw09_num.calls (S.resE) _ _ (GlobE.below HGE.out B.out) rfl).mono ?_)
                 rintro e w9 ⟨rfl, hb⟩
                 have B := Aside0.mk (below_step B.out hb)
                 have K1 := Aside0.mk (K1.out.on hb)
                 have K2 := Aside0.mk (K2.out.on hb)
                 have K3 := Aside0.mk (K3.out.on hb)
                 have K4 := Aside0.mk (K4.out.on hb)
                 clear hb
                 refine ⟨_, rfl, ?_⟩)
              | ((with_reducible refine gate_callee (f := 18) rfl ?_)
                 refine gate_guard (by rfl) ?_
                 dsimp only
                 refine goesL_ (some 231) rfl rfl Tryd.func18 (by kernel_rfl) rfl #[] rfl (by (try simp only [List.map_toArray, List.map_cons, List.map_nil]); first | done | rfl) ?_
                 (with_reducible refine (turnstilelaw09_sure.calls true _ rfl).mono ?_)
                 rintro e w9 ⟨rfl, hb⟩
                 refine ⟨_, rfl, ?_⟩
                 have BZ := Aside0.mk (below_step B.out hb)
                 clear hb))
            go_ret
            exact ⟨rfl, BZ.out⟩
        · obtain rfl : false = D := by rw [← HD.out, hE]; rfl
          have HE := Aside0.mk hE
          have HX1 := Aside0.mk (feed_stop S (fun q => by have := q.1; rw [hE] at this; cases this) [120])
          try rw [hE]
          try simp only [errW_some]
          clear hE
          go_upto_region 16 with (first
            | ((with_reducible refine gate_callee (f := 25) rfl ?_)
               refine goesL_ (some 108) rfl rfl Tryd.func25 (by kernel_rfl) rfl #[.pointer (some ⟨g2, 0, none⟩), .slice Ay c cy] rfl (by (try simp only [List.map_toArray, List.map_cons, List.map_nil]); first | done | rfl) ?_
               (with_reducible refine F4.out.mono ?_)
               rintro e w6 ⟨v0, v1, he, hs⟩
               rw [HK.out] at he hs
               dsimp only at he hs
               rw [HKD.out, HKE.out] at he
               try simp only [errW_some, errW_none] at he
               subst he
               have T6 := Aside0.mk (T5.out.swap.left hs).swap
               have B6 := Aside0.mk (B5.out.trans hs.chg.below)
               have Y6 := Aside0.mk (row_keep rfl Y5.out T5.out.b hs.chg (by decide) (off_nil _).symm (off_nil _).symm)
               have O6 := Aside0.mk (And.intro (off_new Y5.out hs.chg.row0 (off_nil _).symm) (off_new Y5.out hs.chg.row1 (off_nil _).symm))
               clear hs
               refine ⟨_, rfl, ?_⟩)
            | ((with_reducible refine gate_callee (f := 25) rfl ?_)
               refine goesL_ (some 123) rfl rfl Tryd.func25 (by kernel_rfl) rfl #[.pointer (some ⟨g2, 0, none⟩), .slice Ad (l0.length - c) (cy - c)] rfl (by (try simp only [List.map_toArray, List.map_cons, List.map_nil]); first | done | rfl) ?_
               (with_reducible refine (feed_callsD w.heap.size _ g2 K v0 v1 Ad (l0.drop c) (l0.length - c) (cy - c) List.length_drop (fun W' z0 z1 hc => CD.out W' (row_keep rfl Y6.out T6.out.b hc (by decide) O6.out.1 O6.out.2)) (by have := HN.out; omega) (fun x hx => HX.out x (List.mem_of_mem_drop hx)) HKO.out T6.out.b).mono ?_)
               rintro e w7 ⟨v0, v1, he, hs⟩
               rw [HM.out] at he hs
               dsimp only at he hs
               rw [HD.out, HE.out] at he
               try simp only [errW_some, errW_none] at he
               subst he
               have T7 := Aside0.mk (T6.out.swap.left hs).swap
               have B7 := Aside0.mk (B6.out.trans hs.chg.below)
               clear hs
               refine ⟨_, rfl, ?_⟩))
          rw [hNM]
          have T := T7
          have B := B7
          clear T7 B7 T6 B6 T5 B5 hNM
          go_upto_region 17 with (first
            | ((with_reducible refine gate_callee (f := 26) rfl ?_)
               refine goesL_ (some 132) rfl rfl Tryd.func26 (by kernel_rfl) rfl #[.pointer (some ⟨g1, 0, none⟩)] rfl (by (try simp only [List.map_toArray, List.map_cons, List.map_nil]); first | done | rfl) ?_
               (with_reducible refine (request_any w.heap.size _ g1 S u0 u1 T.out.a (by have := HFL.out; omega)).mono ?_)
               rintro e y1 ⟨A1, c1, rfl, ho, hb⟩
               have K1 := Aside0.mk (Held.new ho T.out.a #[.string S.reqM, .string S.reqT, .int .i64 S.reqN, .slice A1 S.reqF.length c1] 24 (by decide))
               have hb2 := below_alloc hb (Obj.cells #[.string S.reqM, .string S.reqT, .int .i64 S.reqN, .slice A1 S.reqF.length c1] 24)
               have B := Aside0.mk (below_step B.out hb2)
               have T := Aside0.mk (T.out.on hb2)
               clear ho hb hb2
               refine ⟨_, rfl, ?_⟩))
          generalize y1.alloc (Obj.cells #[.string S.reqM, .string S.reqT, .int .i64 S.reqN, .slice A1 S.reqF.length c1] 24) = x1 at T B K1 ⊢
          generalize y1.heap.size = q1 at K1 ⊢
          go_upto_region 18 with (first
            | ((with_reducible refine gate_callee (f := 26) rfl ?_)
               refine goesL_ (some 137) rfl rfl Tryd.func26 (by kernel_rfl) rfl #[.pointer (some ⟨g2, 0, none⟩)] rfl (by (try simp only [List.map_toArray, List.map_cons, List.map_nil]); first | done | rfl) ?_
               (with_reducible refine (request_any w.heap.size _ g2 S v0 v1 T.out.b (by have := HFL.out; omega)).mono ?_)
               rintro e y2 ⟨A2, c2, rfl, ho, hb⟩
               have K2 := Aside0.mk (Held.new ho T.out.a #[.string S.reqM, .string S.reqT, .int .i64 S.reqN, .slice A2 S.reqF.length c2] 24 (by decide))
               have hb2 := below_alloc hb (Obj.cells #[.string S.reqM, .string S.reqT, .int .i64 S.reqN, .slice A2 S.reqF.length c2] 24)
               have B := Aside0.mk (below_step B.out hb2)
               have K1 := Aside0.mk (K1.out.on hb2)
               have T := Aside0.mk (T.out.on hb2)
               clear ho hb hb2
               refine ⟨_, rfl, ?_⟩))
          generalize y2.alloc (Obj.cells #[.string S.reqM, .string S.reqT, .int .i64 S.reqN, .slice A2 S.reqF.length c2] 24) = x2 at T B K1 K2 ⊢
          generalize y2.heap.size = q2 at K2 ⊢
          go_upto_region 19 with (first
            | ((with_reducible refine gate_callee (f := 27) rfl ?_)
               refine goesL_ (some 142) rfl rfl Tryd.func27 (by kernel_rfl) rfl #[.pointer (some ⟨g1, 0, none⟩)] rfl (by (try simp only [List.map_toArray, List.map_cons, List.map_nil]); first | done | rfl) ?_
               (with_reducible refine (response_any w.heap.size _ g1 S u0 u1 T.out.a (by have := HFL.out; omega)).mono ?_)
               rintro e y3 ⟨A3, c3, rfl, ho, hb⟩
               have K3 := Aside0.mk (Held.new ho T.out.a #[.int .i64 S.resS, .string S.resR, .int .i64 S.resN, .slice A3 S.resF.length c3] 26 (by decide))
               have hb2 := below_alloc hb (Obj.cells #[.int .i64 S.resS, .string S.resR, .int .i64 S.resN, .slice A3 S.resF.length c3] 26)
               have B := Aside0.mk (below_step B.out hb2)
               have K1 := Aside0.mk (K1.out.on hb2)
               have K2 := Aside0.mk (K2.out.on hb2)
               have T := Aside0.mk (T.out.on hb2)
               clear ho hb hb2
               refine ⟨_, rfl, ?_⟩))
          generalize y3.alloc (Obj.cells #[.int .i64 S.resS, .string S.resR, .int .i64 S.resN, .slice A3 S.resF.length c3] 26) = x3 at T B K1 K2 K3 ⊢
          generalize y3.heap.size = q3 at K3 ⊢
          go_upto_region 20 with (first
            | ((with_reducible refine gate_callee (f := 27) rfl ?_)
               refine goesL_ (some 147) rfl rfl Tryd.func27 (by kernel_rfl) rfl #[.pointer (some ⟨g2, 0, none⟩)] rfl (by (try simp only [List.map_toArray, List.map_cons, List.map_nil]); first | done | rfl) ?_
               (with_reducible refine (response_any w.heap.size _ g2 S v0 v1 T.out.b (by have := HFL.out; omega)).mono ?_)
               rintro e y4 ⟨A4, c4, rfl, ho, hb⟩
               have K4 := Aside0.mk (Held.new ho T.out.a #[.int .i64 S.resS, .string S.resR, .int .i64 S.resN, .slice A4 S.resF.length c4] 26 (by decide))
               have hb2 := below_alloc hb (Obj.cells #[.int .i64 S.resS, .string S.resR, .int .i64 S.resN, .slice A4 S.resF.length c4] 26)
               have B := Aside0.mk (below_step B.out hb2)
               have K1 := Aside0.mk (K1.out.on hb2)
               have K2 := Aside0.mk (K2.out.on hb2)
               have K3 := Aside0.mk (K3.out.on hb2)
               have T := Aside0.mk (T.out.on hb2)
               clear ho hb hb2
               refine ⟨_, rfl, ?_⟩))
          generalize y4.alloc (Obj.cells #[.int .i64 S.resS, .string S.resR, .int .i64 S.resN, .slice A4 S.resF.length c4] 26) = x4 at T B K1 K2 K3 K4 ⊢
          generalize y4.heap.size = q4 at K4 ⊢
          have hcv := Go.Lib.run_convert_bytes_const (P := Tryd.prog) x4 27 5 #[.int .u8 120] 1 1 Tryd.underlying27 Tryd.underlying5
          go_upto_region 22 with (first
            | ((with_reducible refine gate_callee (f := 28) rfl ?_)
               refine goesL_ (some 151) rfl rfl Tryd.func28 (by kernel_rfl) rfl #[.pointer (some ⟨g1, 0, none⟩)] rfl (by (try simp only [List.map_toArray, List.map_cons, List.map_nil]); first | done | rfl) ?_
               (with_reducible refine (len_calls w.heap.size _ g1 S u0 u1 T.out.a).mono ?_)
               rintro e w8 ⟨rfl, hw8⟩
               subst w8
               refine ⟨_, rfl, ?_⟩)
            | ((with_reducible refine gate_callee (f := 28) rfl ?_)
               refine goesL_ (some 153) rfl rfl Tryd.func28 (by kernel_rfl) rfl #[.pointer (some ⟨g2, 0, none⟩)] rfl (by (try simp only [List.map_toArray, List.map_cons, List.map_nil]); first | done | rfl) ?_
               (with_reducible refine (len_calls w.heap.size _ g2 S v0 v1 T.out.b).mono ?_)
               rintro e w8 ⟨rfl, hw8⟩
               subst w8
               refine ⟨_, rfl, ?_⟩)
            | ((with_reducible refine gate_callee (f := 25) rfl ?_)
               refine goesL_ (some 159) rfl rfl Tryd.func25 (by kernel_rfl) rfl #[.pointer (some ⟨g1, 0, none⟩), .slice (some ⟨x4.heap.size, 0, none⟩) 1 1] rfl (by (try simp only [List.map_toArray, List.map_cons, List.map_nil]); first | done | rfl) ?_
               (with_reducible refine (feed_callsD w.heap.size _ g1 S u0 u1 (some ⟨x4.heap.size, 0, none⟩) [120] 1 1 rfl (x_reads T.out.a) (by omega) (by intro x hx; simp only [List.mem_singleton] at hx; subst hx; exact ⟨by decide, by decide⟩) HOK.out ((T.out.alloc _).a)).mono ?_)
               rintro e w8 ⟨z0, z1, he, hs⟩
               rw [HX1.out] at he hs
               dsimp only at he hs
               try rw [HD.out, HE.out] at he
               try simp only [errW_some, errW_none] at he
               subst he
               have B := Aside0.mk ((below_alloc B.out _).trans hs.chg.below)
               have K1 := Aside0.mk ((K1.out.on (below_alloc (Below.refl _ _) _)).fed (T.out.alloc _).a hs.chg)
               have K2 := Aside0.mk ((K2.out.on (below_alloc (Below.refl _ _) _)).fed (T.out.alloc _).a hs.chg)
               have K3 := Aside0.mk ((K3.out.on (below_alloc (Below.refl _ _) _)).fed (T.out.alloc _).a hs.chg)
               have K4 := Aside0.mk ((K4.out.on (below_alloc (Below.refl _ _) _)).fed (T.out.alloc _).a hs.chg)
               clear hs
               refine ⟨_, rfl, ?_⟩))
          have q0 : ((((0 : Nat) : Int)) == 0) = true := rfl
          have Hrequests := Aside0.mk hkq
          have Hresponses := Aside0.mk hks
          clear hkq hks
          go_wp2_with (first
            | ((with_reducible refine gate_callee (f := 23) rfl ?_)
               refine gate_guard (by rfl) ?_
               dsimp only
               refine goesL_ (some 179) rfl rfl Tryd.func23 (by kernel_rfl) rfl #[errW ((some x))] rfl (by (try simp only [List.map_toArray, List.map_cons, List.map_nil]); first | done | rfl) ?_
               (with_reducible refine (turnstilelaw09_num.calls ((some x)) _ _ (GlobE.below HGE.out B.out) rfl).mono ?_)
               rintro e w9 ⟨rfl, hb⟩
               have B := Aside0.mk (below_step B.out hb)
               have K1 := Aside0.mk (K1.out.on hb)
               have K2 := Aside0.mk (K2.out.on hb)
               have K3 := Aside0.mk (K3.out.on hb)
               have K4 := Aside0.mk (K4.out.on hb)
               clear hb
               refine ⟨_, rfl, ?_⟩)
            | ((with_reducible refine gate_callee (f := 23) rfl ?_)
               refine gate_guard (by rfl) ?_
               dsimp only
               refine goesL_ (some 181) rfl rfl Tryd.func23 (by kernel_rfl) rfl #[errW ((some x))] rfl (by (try simp only [List.map_toArray, List.map_cons, List.map_nil]); first | done | rfl) ?_
               (with_reducible refine (turnstilelaw09_num.calls ((some x)) _ _ (GlobE.below HGE.out B.out) rfl).mono ?_)
               rintro e w9 ⟨rfl, hb⟩
               have B := Aside0.mk (below_step B.out hb)
               have K1 := Aside0.mk (K1.out.on hb)
               have K2 := Aside0.mk (K2.out.on hb)
               have K3 := Aside0.mk (K3.out.on hb)
               have K4 := Aside0.mk (K4.out.on hb)
               clear hb
               refine ⟨_, rfl, ?_⟩)
            | ((with_reducible refine gate_callee (f := 23) rfl ?_)
               refine gate_guard (by rfl) ?_
               dsimp only
               refine goesL_ (some 195) rfl rfl Tryd.func23 (by kernel_rfl) rfl #[errW ((some x))] rfl (by (try simp only [List.map_toArray, List.map_cons, List.map_nil]); first | done | rfl) ?_
               (with_reducible refine (turnstilelaw09_num.calls ((some x)) _ _ (GlobE.below HGE.out B.out) rfl).mono ?_)
               rintro e w9 ⟨rfl, hb⟩
               have B := Aside0.mk (below_step B.out hb)
               have K1 := Aside0.mk (K1.out.on hb)
               have K2 := Aside0.mk (K2.out.on hb)
               have K3 := Aside0.mk (K3.out.on hb)
               have K4 := Aside0.mk (K4.out.on hb)
               clear hb
               refine ⟨_, rfl, ?_⟩)
            | ((with_reducible refine gate_callee (f := 23) rfl ?_)
               refine gate_guard (by rfl) ?_
               dsimp only
               refine goesL_ (some 197) rfl rfl Tryd.func23 (by kernel_rfl) rfl #[errW ((some x))] rfl (by (try simp only [List.map_toArray, List.map_cons, List.map_nil]); first | done | rfl) ?_
               (with_reducible refine (turnstilelaw09_num.calls ((some x)) _ _ (GlobE.below HGE.out B.out) rfl).mono ?_)
               rintro e w9 ⟨rfl, hb⟩
               have B := Aside0.mk (below_step B.out hb)
               have K1 := Aside0.mk (K1.out.on hb)
               have K2 := Aside0.mk (K2.out.on hb)
               have K3 := Aside0.mk (K3.out.on hb)
               have K4 := Aside0.mk (K4.out.on hb)
               have b1_0 := (blk_cell K1.out.box 0).trans (show _ = some _ from rfl)
               have f1_0 := blk_frozen K1.out.box 0
               have b1_1 := (blk_cell K1.out.box 1).trans (show _ = some _ from rfl)
               have f1_1 := blk_frozen K1.out.box 1
               have b1_2 := (blk_cell K1.out.box 2).trans (show _ = some _ from rfl)
               have f1_2 := blk_frozen K1.out.box 2
               have b1_3 := (blk_cell K1.out.box 3).trans (show _ = some _ from rfl)
               have f1_3 := blk_frozen K1.out.box 3
               have b2_0 := (blk_cell K2.out.box 0).trans (show _ = some _ from rfl)
               have f2_0 := blk_frozen K2.out.box 0
               have b2_1 := (blk_cell K2.out.box 1).trans (show _ = some _ from rfl)
               have f2_1 := blk_frozen K2.out.box 1
               have b2_2 := (blk_cell K2.out.box 2).trans (show _ = some _ from rfl)
               have f2_2 := blk_frozen K2.out.box 2
               have b2_3 := (blk_cell K2.out.box 3).trans (show _ = some _ from rfl)
               have f2_3 := blk_frozen K2.out.box 3
               clear hb
               refine ⟨_, rfl, ?_⟩)
            | ((with_reducible refine gate_callee (f := 14) rfl ?_)
               refine gate_guard (by rfl) ?_
               dsimp only
               refine goesL_ (some 206) rfl rfl Tryd.func14 (by kernel_rfl) rfl #[.agg #[.string S.reqM, .string S.reqT, .int .i64 S.reqN, .slice A1 S.reqF.length c1], .agg #[.string S.reqM, .string S.reqT, .int .i64 S.reqN, .slice A2 S.reqF.length c2]] rfl (by (try simp only [List.map_toArray, List.map_cons, List.map_nil]); first | done | rfl) ?_
               (with_reducible refine (turnstilelaw09_requests.calls _ S.reqM S.reqT S.reqN A1 c1 S.reqF S.reqM S.reqT S.reqN A2 c2 S.reqF true _ (Kd.R_reads' K1.out.row).2.2 (Kd.R_reads' K1.out.row).2.1 (Kd.R_reads' K2.out.row).2.2 (Kd.R_reads' K2.out.row).2.1 Hrequests.out).mono ?_)
               rintro e w9 ⟨rfl, hb⟩
               have B := Aside0.mk (below_step B.out hb)
               have K1 := Aside0.mk (K1.out.on hb)
               have K2 := Aside0.mk (K2.out.on hb)
               have K3 := Aside0.mk (K3.out.on hb)
               have K4 := Aside0.mk (K4.out.on hb)
               clear hb
               refine ⟨_, rfl, ?_⟩)
            | ((with_reducible refine gate_callee (f := 23) rfl ?_)
               refine gate_guard (by rfl) ?_
               dsimp only
               refine goesL_ (some 210) rfl rfl Tryd.func23 (by kernel_rfl) rfl #[errW (S.reqE)] rfl (by (try simp only [List.map_toArray, List.map_cons, List.map_nil]); first | done | rfl) ?_
               (with_reducible refine (turnstilelaw09_num.calls (S.reqE) _ _ (GlobE.below HGE.out B.out) rfl).mono ?_)
               rintro e w9 ⟨rfl, hb⟩
               have B := Aside0.mk (below_step B.out hb)
               have K1 := Aside0.mk (K1.out.on hb)
               have K2 := Aside0.mk (K2.out.on hb)
               have K3 := Aside0.mk (K3.out.on hb)
               have K4 := Aside0.mk (K4.out.on hb)
               clear hb
               refine ⟨_, rfl, ?_⟩)
            | ((with_reducible refine gate_callee (f := 23) rfl ?_)
               refine gate_guard (by rfl) ?_
               dsimp only
               refine goesL_ (some 212) rfl rfl Tryd.func23 (by kernel_rfl) rfl #[errW (S.reqE)] rfl (by (try simp only [List.map_toArray, List.map_cons, List.map_nil]); first | done | rfl) ?_
               (with_reducible refine (turnstilelaw09_num.calls (S.reqE) _ _ (GlobE.below HGE.out B.out) rfl).mono ?_)
               rintro e w9 ⟨rfl, hb⟩
               have B := Aside0.mk (below_step B.out hb)
               have K1 := Aside0.mk (K1.out.on hb)
               have K2 := Aside0.mk (K2.out.on hb)
               have K3 := Aside0.mk (K3.out.on hb)
               have K4 := Aside0.mk (K4.out.on hb)
               have b3_0 := (blk_cell K3.out.box 0).trans (show _ = some _ from rfl)
               have f3_0 := blk_frozen K3.out.box 0
               have b3_1 := (blk_cell K3.out.box 1).trans (show _ = some _ from rfl)
               have f3_1 := blk_frozen K3.out.box 1
               have b3_2 := (blk_cell K3.out.box 2).trans (show _ = some _ from rfl)
               have f3_2 := blk_frozen K3.out.box 2
               have b3_3 := (blk_cell K3.out.box 3).trans (show _ = some _ from rfl)
               have f3_3 := blk_frozen K3.out.box 3
               have b4_0 := (blk_cell K4.out.box 0).trans (show _ = some _ from rfl)
               have f4_0 := blk_frozen K4.out.box 0
               have b4_1 := (blk_cell K4.out.box 1).trans (show _ = some _ from rfl)
               have f4_1 := blk_frozen K4.out.box 1
               have b4_2 := (blk_cell K4.out.box 2).trans (show _ = some _ from rfl)
               have f4_2 := blk_frozen K4.out.box 2
               have b4_3 := (blk_cell K4.out.box 3).trans (show _ = some _ from rfl)
               have f4_3 := blk_frozen K4.out.box 3
               clear hb
               refine ⟨_, rfl, ?_⟩)
            | ((with_reducible refine gate_callee (f := 17) rfl ?_)
               refine gate_guard (by rfl) ?_
               dsimp only
               refine goesL_ (some 218) rfl rfl Tryd.func17 (by kernel_rfl) rfl #[.agg #[.int .i64 S.resS, .string S.resR, .int .i64 S.resN, .slice A3 S.resF.length c3], .agg #[.int .i64 S.resS, .string S.resR, .int .i64 S.resN, .slice A4 S.resF.length c4]] rfl (by (try simp only [List.map_toArray, List.map_cons, List.map_nil]); first | done | rfl) ?_
               (with_reducible refine (turnstilelaw09_responses.calls _ S.resS S.resR S.resN A3 c3 S.resF S.resS S.resR S.resN A4 c4 S.resF true _ (Kd.R_reads' K3.out.row).2.2 (Kd.R_reads' K3.out.row).2.1 (Kd.R_reads' K4.out.row).2.2 (Kd.R_reads' K4.out.row).2.1 Hresponses.out).mono ?_)
               rintro e w9 ⟨rfl, hb⟩
               have B := Aside0.mk (below_step B.out hb)
               have K1 := Aside0.mk (K1.out.on hb)
               have K2 := Aside0.mk (K2.out.on hb)
               have K3 := Aside0.mk (K3.out.on hb)
               have K4 := Aside0.mk (K4.out.on hb)
               clear hb
               refine ⟨_, rfl, ?_⟩)
            | ((with_reducible refine gate_callee (f := 23) rfl ?_)
               refine gate_guard (by rfl) ?_
               dsimp only
               refine goesL_ (some 222) rfl rfl Tryd.func23 (by kernel_rfl) rfl #[errW (S.resE)] rfl (by (try simp only [List.map_toArray, List.map_cons, List.map_nil]); first | done | rfl) ?_
               (with_reducible refine (turnstilelaw09_num.calls (S.resE) _ _ (GlobE.below HGE.out B.out) rfl).mono ?_)
               rintro e w9 ⟨rfl, hb⟩
               have B := Aside0.mk (below_step B.out hb)
               have K1 := Aside0.mk (K1.out.on hb)
               have K2 := Aside0.mk (K2.out.on hb)
               have K3 := Aside0.mk (K3.out.on hb)
               have K4 := Aside0.mk (K4.out.on hb)
               clear hb
               refine ⟨_, rfl, ?_⟩)
            | ((with_reducible refine gate_callee (f := 23) rfl ?_)
               refine gate_guard (by rfl) ?_
               dsimp only
               refine goesL_ (some 224) rfl rfl Tryd.func23 (by kernel_rfl) rfl #[errW (S.resE)] rfl (by (try simp only [List.map_toArray, List.map_cons, List.map_nil]); first | done | rfl) ?_
               (with_reducible refine (turnstilelaw09_num.calls (S.resE) _ _ (GlobE.below HGE.out B.out) rfl).mono ?_)
               rintro e w9 ⟨rfl, hb⟩
               have B := Aside0.mk (below_step B.out hb)
               have K1 := Aside0.mk (K1.out.on hb)
               have K2 := Aside0.mk (K2.out.on hb)
               have K3 := Aside0.mk (K3.out.on hb)
               have K4 := Aside0.mk (K4.out.on hb)
               clear hb
               refine ⟨_, rfl, ?_⟩)
            | ((with_reducible refine gate_callee (f := 18) rfl ?_)
               refine gate_guard (by rfl) ?_
               dsimp only
               refine goesL_ (some 231) rfl rfl Tryd.func18 (by kernel_rfl) rfl #[] rfl (by (try simp only [List.map_toArray, List.map_cons, List.map_nil]); first | done | rfl) ?_
               (with_reducible refine (turnstilelaw09_sure.calls true _ rfl).mono ?_)
               rintro e w9 ⟨rfl, hb⟩
               refine ⟨_, rfl, ?_⟩
               have BZ := Aside0.mk (below_step B.out hb)
               clear hb))
          go_ret
          exact ⟨rfl, BZ.out⟩
      · rw [if_neg hk] at hsp
        have HK := Aside0.mk hsp.symm
        rw [← hsp] at hk
        dsimp only at hk
        have HX1 := Aside0.mk (feed_stop S hk [120])
        rcases hE : S.err with _ | x
        · have ha : S.at_ = 11 := Classical.byContradiction fun q => hk ⟨hE, q⟩
          obtain rfl : true = D := by rw [← HD.out, hE, ha]; rfl
          have HKD := Aside0.mk HD.out
          have HE := Aside0.mk hE
          have HKE := HE
          try rw [hE]
          try simp only [errW_none]
          clear hsp hE hk ha
          go_upto_region 16 with (first
            | ((with_reducible refine gate_callee (f := 25) rfl ?_)
               refine goesL_ (some 108) rfl rfl Tryd.func25 (by kernel_rfl) rfl #[.pointer (some ⟨g2, 0, none⟩), .slice Ay c cy] rfl (by (try simp only [List.map_toArray, List.map_cons, List.map_nil]); first | done | rfl) ?_
               (with_reducible refine F4.out.mono ?_)
               rintro e w6 ⟨v0, v1, he, hs⟩
               rw [HK.out] at he hs
               dsimp only at he hs
               rw [HKD.out, HKE.out] at he
               try simp only [errW_some, errW_none] at he
               subst he
               have T6 := Aside0.mk (T5.out.swap.left hs).swap
               have B6 := Aside0.mk (B5.out.trans hs.chg.below)
               have Y6 := Aside0.mk (row_keep rfl Y5.out T5.out.b hs.chg (by decide) (off_nil _).symm (off_nil _).symm)
               have O6 := Aside0.mk (And.intro (off_new Y5.out hs.chg.row0 (off_nil _).symm) (off_new Y5.out hs.chg.row1 (off_nil _).symm))
               clear hs
               refine ⟨_, rfl, ?_⟩))
          have T := T6
          have B := B6
          clear T6 B6 T5 B5
          go_upto_region 17 with (first
            | ((with_reducible refine gate_callee (f := 26) rfl ?_)
               refine goesL_ (some 132) rfl rfl Tryd.func26 (by kernel_rfl) rfl #[.pointer (some ⟨g1, 0, none⟩)] rfl (by (try simp only [List.map_toArray, List.map_cons, List.map_nil]); first | done | rfl) ?_
               (with_reducible refine (request_any w.heap.size _ g1 S u0 u1 T.out.a (by have := HFL.out; omega)).mono ?_)
               rintro e y1 ⟨A1, c1, rfl, ho, hb⟩
               have K1 := Aside0.mk (Held.new ho T.out.a #[.string S.reqM, .string S.reqT, .int .i64 S.reqN, .slice A1 S.reqF.length c1] 24 (by decide))
               have hb2 := below_alloc hb (Obj.cells #[.string S.reqM, .string S.reqT, .int .i64 S.reqN, .slice A1 S.reqF.length c1] 24)
               have B := Aside0.mk (below_step B.out hb2)
               have T := Aside0.mk (T.out.on hb2)
               clear ho hb hb2
               refine ⟨_, rfl, ?_⟩))
          generalize y1.alloc (Obj.cells #[.string S.reqM, .string S.reqT, .int .i64 S.reqN, .slice A1 S.reqF.length c1] 24) = x1 at T B K1 ⊢
          generalize y1.heap.size = q1 at K1 ⊢
          go_upto_region 18 with (first
            | ((with_reducible refine gate_callee (f := 26) rfl ?_)
               refine goesL_ (some 137) rfl rfl Tryd.func26 (by kernel_rfl) rfl #[.pointer (some ⟨g2, 0, none⟩)] rfl (by (try simp only [List.map_toArray, List.map_cons, List.map_nil]); first | done | rfl) ?_
               (with_reducible refine (request_any w.heap.size _ g2 S v0 v1 T.out.b (by have := HFL.out; omega)).mono ?_)
               rintro e y2 ⟨A2, c2, rfl, ho, hb⟩
               have K2 := Aside0.mk (Held.new ho T.out.a #[.string S.reqM, .string S.reqT, .int .i64 S.reqN, .slice A2 S.reqF.length c2] 24 (by decide))
               have hb2 := below_alloc hb (Obj.cells #[.string S.reqM, .string S.reqT, .int .i64 S.reqN, .slice A2 S.reqF.length c2] 24)
               have B := Aside0.mk (below_step B.out hb2)
               have K1 := Aside0.mk (K1.out.on hb2)
               have T := Aside0.mk (T.out.on hb2)
               clear ho hb hb2
               refine ⟨_, rfl, ?_⟩))
          generalize y2.alloc (Obj.cells #[.string S.reqM, .string S.reqT, .int .i64 S.reqN, .slice A2 S.reqF.length c2] 24) = x2 at T B K1 K2 ⊢
          generalize y2.heap.size = q2 at K2 ⊢
          go_upto_region 19 with (first
            | ((with_reducible refine gate_callee (f := 27) rfl ?_)
               refine goesL_ (some 142) rfl rfl Tryd.func27 (by kernel_rfl) rfl #[.pointer (some ⟨g1, 0, none⟩)] rfl (by (try simp only [List.map_toArray, List.map_cons, List.map_nil]); first | done | rfl) ?_
               (with_reducible refine (response_any w.heap.size _ g1 S u0 u1 T.out.a (by have := HFL.out; omega)).mono ?_)
               rintro e y3 ⟨A3, c3, rfl, ho, hb⟩
               have K3 := Aside0.mk (Held.new ho T.out.a #[.int .i64 S.resS, .string S.resR, .int .i64 S.resN, .slice A3 S.resF.length c3] 26 (by decide))
               have hb2 := below_alloc hb (Obj.cells #[.int .i64 S.resS, .string S.resR, .int .i64 S.resN, .slice A3 S.resF.length c3] 26)
               have B := Aside0.mk (below_step B.out hb2)
               have K1 := Aside0.mk (K1.out.on hb2)
               have K2 := Aside0.mk (K2.out.on hb2)
               have T := Aside0.mk (T.out.on hb2)
               clear ho hb hb2
               refine ⟨_, rfl, ?_⟩))
          generalize y3.alloc (Obj.cells #[.int .i64 S.resS, .string S.resR, .int .i64 S.resN, .slice A3 S.resF.length c3] 26) = x3 at T B K1 K2 K3 ⊢
          generalize y3.heap.size = q3 at K3 ⊢
          go_upto_region 20 with (first
            | ((with_reducible refine gate_callee (f := 27) rfl ?_)
               refine goesL_ (some 147) rfl rfl Tryd.func27 (by kernel_rfl) rfl #[.pointer (some ⟨g2, 0, none⟩)] rfl (by (try simp only [List.map_toArray, List.map_cons, List.map_nil]); first | done | rfl) ?_
               (with_reducible refine (response_any w.heap.size _ g2 S v0 v1 T.out.b (by have := HFL.out; omega)).mono ?_)
               rintro e y4 ⟨A4, c4, rfl, ho, hb⟩
               have K4 := Aside0.mk (Held.new ho T.out.a #[.int .i64 S.resS, .string S.resR, .int .i64 S.resN, .slice A4 S.resF.length c4] 26 (by decide))
               have hb2 := below_alloc hb (Obj.cells #[.int .i64 S.resS, .string S.resR, .int .i64 S.resN, .slice A4 S.resF.length c4] 26)
               have B := Aside0.mk (below_step B.out hb2)
               have K1 := Aside0.mk (K1.out.on hb2)
               have K2 := Aside0.mk (K2.out.on hb2)
               have K3 := Aside0.mk (K3.out.on hb2)
               have T := Aside0.mk (T.out.on hb2)
               clear ho hb hb2
               refine ⟨_, rfl, ?_⟩))
          generalize y4.alloc (Obj.cells #[.int .i64 S.resS, .string S.resR, .int .i64 S.resN, .slice A4 S.resF.length c4] 26) = x4 at T B K1 K2 K3 K4 ⊢
          generalize y4.heap.size = q4 at K4 ⊢
          have hcv := Go.Lib.run_convert_bytes_const (P := Tryd.prog) x4 27 5 #[.int .u8 120] 1 1 Tryd.underlying27 Tryd.underlying5
          go_upto_region 22 with (first
            | ((with_reducible refine gate_callee (f := 28) rfl ?_)
               refine goesL_ (some 151) rfl rfl Tryd.func28 (by kernel_rfl) rfl #[.pointer (some ⟨g1, 0, none⟩)] rfl (by (try simp only [List.map_toArray, List.map_cons, List.map_nil]); first | done | rfl) ?_
               (with_reducible refine (len_calls w.heap.size _ g1 S u0 u1 T.out.a).mono ?_)
               rintro e w8 ⟨rfl, hw8⟩
               subst w8
               refine ⟨_, rfl, ?_⟩)
            | ((with_reducible refine gate_callee (f := 28) rfl ?_)
               refine goesL_ (some 153) rfl rfl Tryd.func28 (by kernel_rfl) rfl #[.pointer (some ⟨g2, 0, none⟩)] rfl (by (try simp only [List.map_toArray, List.map_cons, List.map_nil]); first | done | rfl) ?_
               (with_reducible refine (len_calls w.heap.size _ g2 S v0 v1 T.out.b).mono ?_)
               rintro e w8 ⟨rfl, hw8⟩
               subst w8
               refine ⟨_, rfl, ?_⟩)
            | ((with_reducible refine gate_callee (f := 25) rfl ?_)
               refine goesL_ (some 159) rfl rfl Tryd.func25 (by kernel_rfl) rfl #[.pointer (some ⟨g1, 0, none⟩), .slice (some ⟨x4.heap.size, 0, none⟩) 1 1] rfl (by (try simp only [List.map_toArray, List.map_cons, List.map_nil]); first | done | rfl) ?_
               (with_reducible refine (feed_callsD w.heap.size _ g1 S u0 u1 (some ⟨x4.heap.size, 0, none⟩) [120] 1 1 rfl (x_reads T.out.a) (by omega) (by intro x hx; simp only [List.mem_singleton] at hx; subst hx; exact ⟨by decide, by decide⟩) HOK.out ((T.out.alloc _).a)).mono ?_)
               rintro e w8 ⟨z0, z1, he, hs⟩
               rw [HX1.out] at he hs
               dsimp only at he hs
               try rw [HD.out, HE.out] at he
               try simp only [errW_some, errW_none] at he
               subst he
               have B := Aside0.mk ((below_alloc B.out _).trans hs.chg.below)
               have K1 := Aside0.mk ((K1.out.on (below_alloc (Below.refl _ _) _)).fed (T.out.alloc _).a hs.chg)
               have K2 := Aside0.mk ((K2.out.on (below_alloc (Below.refl _ _) _)).fed (T.out.alloc _).a hs.chg)
               have K3 := Aside0.mk ((K3.out.on (below_alloc (Below.refl _ _) _)).fed (T.out.alloc _).a hs.chg)
               have K4 := Aside0.mk ((K4.out.on (below_alloc (Below.refl _ _) _)).fed (T.out.alloc _).a hs.chg)
               clear hs
               refine ⟨_, rfl, ?_⟩))
          have q0 : ((((0 : Nat) : Int)) == 0) = true := rfl
          have Hrequests := Aside0.mk hkq
          have Hresponses := Aside0.mk hks
          clear hkq hks
          go_wp2_with (first
            | ((with_reducible refine gate_callee (f := 23) rfl ?_)
               refine gate_guard (by rfl) ?_
               dsimp only
               refine goesL_ (some 179) rfl rfl Tryd.func23 (by kernel_rfl) rfl #[errW (none)] rfl (by (try simp only [List.map_toArray, List.map_cons, List.map_nil]); first | done | rfl) ?_
               (with_reducible refine (turnstilelaw09_num.calls (none) _ _ (GlobE.below HGE.out B.out) rfl).mono ?_)
               rintro e w9 ⟨rfl, hb⟩
               have B := Aside0.mk (below_step B.out hb)
               have K1 := Aside0.mk (K1.out.on hb)
               have K2 := Aside0.mk (K2.out.on hb)
               have K3 := Aside0.mk (K3.out.on hb)
               have K4 := Aside0.mk (K4.out.on hb)
               clear hb
               refine ⟨_, rfl, ?_⟩)
            | ((with_reducible refine gate_callee (f := 23) rfl ?_)
               refine gate_guard (by rfl) ?_
               dsimp only
               refine goesL_ (some 181) rfl rfl Tryd.func23 (by kernel_rfl) rfl #[errW (none)] rfl (by (try simp only [List.map_toArray, List.map_cons, List.map_nil]); first | done | rfl) ?_
               (with_reducible refine (turnstilelaw09_num.calls (none) _ _ (GlobE.below HGE.out B.out) rfl).mono ?_)
               rintro e w9 ⟨rfl, hb⟩
               have B := Aside0.mk (below_step B.out hb)
               have K1 := Aside0.mk (K1.out.on hb)
               have K2 := Aside0.mk (K2.out.on hb)
               have K3 := Aside0.mk (K3.out.on hb)
               have K4 := Aside0.mk (K4.out.on hb)
               clear hb
               refine ⟨_, rfl, ?_⟩)
            | ((with_reducible refine gate_callee (f := 23) rfl ?_)
               refine gate_guard (by rfl) ?_
               dsimp only
               refine goesL_ (some 195) rfl rfl Tryd.func23 (by kernel_rfl) rfl #[errW (none)] rfl (by (try simp only [List.map_toArray, List.map_cons, List.map_nil]); first | done | rfl) ?_
               (with_reducible refine (turnstilelaw09_num.calls (none) _ _ (GlobE.below HGE.out B.out) rfl).mono ?_)
               rintro e w9 ⟨rfl, hb⟩
               have B := Aside0.mk (below_step B.out hb)
               have K1 := Aside0.mk (K1.out.on hb)
               have K2 := Aside0.mk (K2.out.on hb)
               have K3 := Aside0.mk (K3.out.on hb)
               have K4 := Aside0.mk (K4.out.on hb)
               clear hb
               refine ⟨_, rfl, ?_⟩)
            | ((with_reducible refine gate_callee (f := 23) rfl ?_)
               refine gate_guard (by rfl) ?_
               dsimp only
               refine goesL_ (some 197) rfl rfl Tryd.func23 (by kernel_rfl) rfl #[errW (none)] rfl (by (try simp only [List.map_toArray, List.map_cons, List.map_nil]); first | done | rfl) ?_
               (with_reducible refine (turnstilelaw09_num.calls (none) _ _ (GlobE.below HGE.out B.out) rfl).mono ?_)
               rintro e w9 ⟨rfl, hb⟩
               have B := Aside0.mk (below_step B.out hb)
               have K1 := Aside0.mk (K1.out.on hb)
               have K2 := Aside0.mk (K2.out.on hb)
               have K3 := Aside0.mk (K3.out.on hb)
               have K4 := Aside0.mk (K4.out.on hb)
               have b1_0 := (blk_cell K1.out.box 0).trans (show _ = some _ from rfl)
               have f1_0 := blk_frozen K1.out.box 0
               have b1_1 := (blk_cell K1.out.box 1).trans (show _ = some _ from rfl)
               have f1_1 := blk_frozen K1.out.box 1
               have b1_2 := (blk_cell K1.out.box 2).trans (show _ = some _ from rfl)
               have f1_2 := blk_frozen K1.out.box 2
               have b1_3 := (blk_cell K1.out.box 3).trans (show _ = some _ from rfl)
               have f1_3 := blk_frozen K1.out.box 3
               have b2_0 := (blk_cell K2.out.box 0).trans (show _ = some _ from rfl)
               have f2_0 := blk_frozen K2.out.box 0
               have b2_1 := (blk_cell K2.out.box 1).trans (show _ = some _ from rfl)
               have f2_1 := blk_frozen K2.out.box 1
               have b2_2 := (blk_cell K2.out.box 2).trans (show _ = some _ from rfl)
               have f2_2 := blk_frozen K2.out.box 2
               have b2_3 := (blk_cell K2.out.box 3).trans (show _ = some _ from rfl)
               have f2_3 := blk_frozen K2.out.box 3
               clear hb
               refine ⟨_, rfl, ?_⟩)
            | ((with_reducible refine gate_callee (f := 14) rfl ?_)
               refine gate_guard (by rfl) ?_
               dsimp only
               refine goesL_ (some 206) rfl rfl Tryd.func14 (by kernel_rfl) rfl #[.agg #[.string S.reqM, .string S.reqT, .int .i64 S.reqN, .slice A1 S.reqF.length c1], .agg #[.string S.reqM, .string S.reqT, .int .i64 S.reqN, .slice A2 S.reqF.length c2]] rfl (by (try simp only [List.map_toArray, List.map_cons, List.map_nil]); first | done | rfl) ?_
               (with_reducible refine (turnstilelaw09_requests.calls _ S.reqM S.reqT S.reqN A1 c1 S.reqF S.reqM S.reqT S.reqN A2 c2 S.reqF true _ (Kd.R_reads' K1.out.row).2.2 (Kd.R_reads' K1.out.row).2.1 (Kd.R_reads' K2.out.row).2.2 (Kd.R_reads' K2.out.row).2.1 Hrequests.out).mono ?_)
               rintro e w9 ⟨rfl, hb⟩
               have B := Aside0.mk (below_step B.out hb)
               have K1 := Aside0.mk (K1.out.on hb)
               have K2 := Aside0.mk (K2.out.on hb)
               have K3 := Aside0.mk (K3.out.on hb)
               have K4 := Aside0.mk (K4.out.on hb)
               clear hb
               refine ⟨_, rfl, ?_⟩)
            | ((with_reducible refine gate_callee (f := 23) rfl ?_)
               refine gate_guard (by rfl) ?_
               dsimp only
               refine goesL_ (some 210) rfl rfl Tryd.func23 (by kernel_rfl) rfl #[errW (S.reqE)] rfl (by (try simp only [List.map_toArray, List.map_cons, List.map_nil]); first | done | rfl) ?_
               (with_reducible refine (turnstilelaw09_num.calls (S.reqE) _ _ (GlobE.below HGE.out B.out) rfl).mono ?_)
               rintro e w9 ⟨rfl, hb⟩
               have B := Aside0.mk (below_step B.out hb)
               have K1 := Aside0.mk (K1.out.on hb)
               have K2 := Aside0.mk (K2.out.on hb)
               have K3 := Aside0.mk (K3.out.on hb)
               have K4 := Aside0.mk (K4.out.on hb)
               clear hb
               refine ⟨_, rfl, ?_⟩)
            | ((with_reducible refine gate_callee (f := 23) rfl ?_)
               refine gate_guard (by rfl) ?_
               dsimp only
               refine goesL_ (some 212) rfl rfl Tryd.func23 (by kernel_rfl) rfl #[errW (S.reqE)] rfl (by (try simp only [List.map_toArray, List.map_cons, List.map_nil]); first | done | rfl) ?_
               (with_reducible refine (turnstilelaw09_num.calls (S.reqE) _ _ (GlobE.below HGE.out B.out) rfl).mono ?_)
               rintro e w9 ⟨rfl, hb⟩
               have B := Aside0.mk (below_step B.out hb)
               have K1 := Aside0.mk (K1.out.on hb)
               have K2 := Aside0.mk (K2.out.on hb)
               have K3 := Aside0.mk (K3.out.on hb)
               have K4 := Aside0.mk (K4.out.on hb)
               have b3_0 := (blk_cell K3.out.box 0).trans (show _ = some _ from rfl)
               have f3_0 := blk_frozen K3.out.box 0
               have b3_1 := (blk_cell K3.out.box 1).trans (show _ = some _ from rfl)
               have f3_1 := blk_frozen K3.out.box 1
               have b3_2 := (blk_cell K3.out.box 2).trans (show _ = some _ from rfl)
               have f3_2 := blk_frozen K3.out.box 2
               have b3_3 := (blk_cell K3.out.box 3).trans (show _ = some _ from rfl)
               have f3_3 := blk_frozen K3.out.box 3
               have b4_0 := (blk_cell K4.out.box 0).trans (show _ = some _ from rfl)
               have f4_0 := blk_frozen K4.out.box 0
               have b4_1 := (blk_cell K4.out.box 1).trans (show _ = some _ from rfl)
               have f4_1 := blk_frozen K4.out.box 1
               have b4_2 := (blk_cell K4.out.box 2).trans (show _ = some _ from rfl)
               have f4_2 := blk_frozen K4.out.box 2
               have b4_3 := (blk_cell K4.out.box 3).trans (show _ = some _ from rfl)
               have f4_3 := blk_frozen K4.out.box 3
               clear hb
               refine ⟨_, rfl, ?_⟩)
            | ((with_reducible refine gate_callee (f := 17) rfl ?_)
               refine gate_guard (by rfl) ?_
               dsimp only
               refine goesL_ (some 218) rfl rfl Tryd.func17 (by kernel_rfl) rfl #[.agg #[.int .i64 S.resS, .string S.resR, .int .i64 S.resN, .slice A3 S.resF.length c3], .agg #[.int .i64 S.resS, .string S.resR, .int .i64 S.resN, .slice A4 S.resF.length c4]] rfl (by (try simp only [List.map_toArray, List.map_cons, List.map_nil]); first | done | rfl) ?_
               (with_reducible refine (turnstilelaw09_responses.calls _ S.resS S.resR S.resN A3 c3 S.resF S.resS S.resR S.resN A4 c4 S.resF true _ (Kd.R_reads' K3.out.row).2.2 (Kd.R_reads' K3.out.row).2.1 (Kd.R_reads' K4.out.row).2.2 (Kd.R_reads' K4.out.row).2.1 Hresponses.out).mono ?_)
               rintro e w9 ⟨rfl, hb⟩
               have B := Aside0.mk (below_step B.out hb)
               have K1 := Aside0.mk (K1.out.on hb)
               have K2 := Aside0.mk (K2.out.on hb)
               have K3 := Aside0.mk (K3.out.on hb)
               have K4 := Aside0.mk (K4.out.on hb)
               clear hb
               refine ⟨_, rfl, ?_⟩)
            | ((with_reducible refine gate_callee (f := 23) rfl ?_)
               refine gate_guard (by rfl) ?_
               dsimp only
               refine goesL_ (some 222) rfl rfl Tryd.func23 (by kernel_rfl) rfl #[errW (S.resE)] rfl (by (try simp only [List.map_toArray, List.map_cons, List.map_nil]); first | done | rfl) ?_
               (with_reducible refine (turnstilelaw09_num.calls (S.resE) _ _ (GlobE.below HGE.out B.out) rfl).mono ?_)
               rintro e w9 ⟨rfl, hb⟩
               have B := Aside0.mk (below_step B.out hb)
               have K1 := Aside0.mk (K1.out.on hb)
               have K2 := Aside0.mk (K2.out.on hb)
               have K3 := Aside0.mk (K3.out.on hb)
               have K4 := Aside0.mk (K4.out.on hb)
               clear hb
               refine ⟨_, rfl, ?_⟩)
            | ((with_reducible refine gate_callee (f := 23) rfl ?_)
               refine gate_guard (by rfl) ?_
               dsimp only
               refine goesL_ (some 224) rfl rfl Tryd.func23 (by kernel_rfl) rfl #[errW (S.resE)] rfl (by (try simp only [List.map_toArray, List.map_cons, List.map_nil]); first | done | rfl) ?_
               (with_reducible refine (turnstilelaw09_num.calls (S.resE) _ _ (GlobE.below HGE.out B.out) rfl).mono ?_)
               rintro e w9 ⟨rfl, hb⟩
               have B := Aside0.mk (below_step B.out hb)
               have K1 := Aside0.mk (K1.out.on hb)
               have K2 := Aside0.mk (K2.out.on hb)
               have K3 := Aside0.mk (K3.out.on hb)
               have K4 := Aside0.mk (K4.out.on hb)
               clear hb
               refine ⟨_, rfl, ?_⟩)
            | ((with_reducible refine gate_callee (f := 18) rfl ?_)
               refine gate_guard (by rfl) ?_
               dsimp only
               refine goesL_ (some 231) rfl rfl Tryd.func18 (by kernel_rfl) rfl #[] rfl (by (try simp only [List.map_toArray, List.map_cons, List.map_nil]); first | done | rfl) ?_
               (with_reducible refine (turnstilelaw09_sure.calls true _ rfl).mono ?_)
               rintro e w9 ⟨rfl, hb⟩
               refine ⟨_, rfl, ?_⟩
               have BZ := Aside0.mk (below_step B.out hb)
               clear hb))
          go_ret
          exact ⟨rfl, BZ.out⟩
        · obtain rfl : false = D := by rw [← HD.out, hE]; rfl
          have HKD := Aside0.mk HD.out
          have HE := Aside0.mk hE
          have HKE := HE
          try rw [hE]
          try simp only [errW_some]
          clear hsp hE hk
          go_upto_region 16 with (first
            | ((with_reducible refine gate_callee (f := 25) rfl ?_)
               refine goesL_ (some 108) rfl rfl Tryd.func25 (by kernel_rfl) rfl #[.pointer (some ⟨g2, 0, none⟩), .slice Ay c cy] rfl (by (try simp only [List.map_toArray, List.map_cons, List.map_nil]); first | done | rfl) ?_
               (with_reducible refine F4.out.mono ?_)
               rintro e w6 ⟨v0, v1, he, hs⟩
               rw [HK.out] at he hs
               dsimp only at he hs
               rw [HKD.out, HKE.out] at he
               try simp only [errW_some, errW_none] at he
               subst he
               have T6 := Aside0.mk (T5.out.swap.left hs).swap
               have B6 := Aside0.mk (B5.out.trans hs.chg.below)
               have Y6 := Aside0.mk (row_keep rfl Y5.out T5.out.b hs.chg (by decide) (off_nil _).symm (off_nil _).symm)
               have O6 := Aside0.mk (And.intro (off_new Y5.out hs.chg.row0 (off_nil _).symm) (off_new Y5.out hs.chg.row1 (off_nil _).symm))
               clear hs
               refine ⟨_, rfl, ?_⟩))
          have T := T6
          have B := B6
          clear T6 B6 T5 B5
          go_upto_region 17 with (first
            | ((with_reducible refine gate_callee (f := 26) rfl ?_)
               refine goesL_ (some 132) rfl rfl Tryd.func26 (by kernel_rfl) rfl #[.pointer (some ⟨g1, 0, none⟩)] rfl (by (try simp only [List.map_toArray, List.map_cons, List.map_nil]); first | done | rfl) ?_
               (with_reducible refine (request_any w.heap.size _ g1 S u0 u1 T.out.a (by have := HFL.out; omega)).mono ?_)
               rintro e y1 ⟨A1, c1, rfl, ho, hb⟩
               have K1 := Aside0.mk (Held.new ho T.out.a #[.string S.reqM, .string S.reqT, .int .i64 S.reqN, .slice A1 S.reqF.length c1] 24 (by decide))
               have hb2 := below_alloc hb (Obj.cells #[.string S.reqM, .string S.reqT, .int .i64 S.reqN, .slice A1 S.reqF.length c1] 24)
               have B := Aside0.mk (below_step B.out hb2)
               have T := Aside0.mk (T.out.on hb2)
               clear ho hb hb2
               refine ⟨_, rfl, ?_⟩))
          generalize y1.alloc (Obj.cells #[.string S.reqM, .string S.reqT, .int .i64 S.reqN, .slice A1 S.reqF.length c1] 24) = x1 at T B K1 ⊢
          generalize y1.heap.size = q1 at K1 ⊢
          go_upto_region 18 with (first
            | ((with_reducible refine gate_callee (f := 26) rfl ?_)
               refine goesL_ (some 137) rfl rfl Tryd.func26 (by kernel_rfl) rfl #[.pointer (some ⟨g2, 0, none⟩)] rfl (by (try simp only [List.map_toArray, List.map_cons, List.map_nil]); first | done | rfl) ?_
               (with_reducible refine (request_any w.heap.size _ g2 S v0 v1 T.out.b (by have := HFL.out; omega)).mono ?_)
               rintro e y2 ⟨A2, c2, rfl, ho, hb⟩
               have K2 := Aside0.mk (Held.new ho T.out.a #[.string S.reqM, .string S.reqT, .int .i64 S.reqN, .slice A2 S.reqF.length c2] 24 (by decide))
               have hb2 := below_alloc hb (Obj.cells #[.string S.reqM, .string S.reqT, .int .i64 S.reqN, .slice A2 S.reqF.length c2] 24)
               have B := Aside0.mk (below_step B.out hb2)
               have K1 := Aside0.mk (K1.out.on hb2)
               have T := Aside0.mk (T.out.on hb2)
               clear ho hb hb2
               refine ⟨_, rfl, ?_⟩))
          generalize y2.alloc (Obj.cells #[.string S.reqM, .string S.reqT, .int .i64 S.reqN, .slice A2 S.reqF.length c2] 24) = x2 at T B K1 K2 ⊢
          generalize y2.heap.size = q2 at K2 ⊢
          go_upto_region 19 with (first
            | ((with_reducible refine gate_callee (f := 27) rfl ?_)
               refine goesL_ (some 142) rfl rfl Tryd.func27 (by kernel_rfl) rfl #[.pointer (some ⟨g1, 0, none⟩)] rfl (by (try simp only [List.map_toArray, List.map_cons, List.map_nil]); first | done | rfl) ?_
               (with_reducible refine (response_any w.heap.size _ g1 S u0 u1 T.out.a (by have := HFL.out; omega)).mono ?_)
               rintro e y3 ⟨A3, c3, rfl, ho, hb⟩
               have K3 := Aside0.mk (Held.new ho T.out.a #[.int .i64 S.resS, .string S.resR, .int .i64 S.resN, .slice A3 S.resF.length c3] 26 (by decide))
               have hb2 := below_alloc hb (Obj.cells #[.int .i64 S.resS, .string S.resR, .int .i64 S.resN, .slice A3 S.resF.length c3] 26)
               have B := Aside0.mk (below_step B.out hb2)
               have K1 := Aside0.mk (K1.out.on hb2)
               have K2 := Aside0.mk (K2.out.on hb2)
               have T := Aside0.mk (T.out.on hb2)
               clear ho hb hb2
               refine ⟨_, rfl, ?_⟩))
          generalize y3.alloc (Obj.cells #[.int .i64 S.resS, .string S.resR, .int .i64 S.resN, .slice A3 S.resF.length c3] 26) = x3 at T B K1 K2 K3 ⊢
          generalize y3.heap.size = q3 at K3 ⊢
          go_upto_region 20 with (first
            | ((with_reducible refine gate_callee (f := 27) rfl ?_)
               refine goesL_ (some 147) rfl rfl Tryd.func27 (by kernel_rfl) rfl #[.pointer (some ⟨g2, 0, none⟩)] rfl (by (try simp only [List.map_toArray, List.map_cons, List.map_nil]); first | done | rfl) ?_
               (with_reducible refine (response_any w.heap.size _ g2 S v0 v1 T.out.b (by have := HFL.out; omega)).mono ?_)
               rintro e y4 ⟨A4, c4, rfl, ho, hb⟩
               have K4 := Aside0.mk (Held.new ho T.out.a #[.int .i64 S.resS, .string S.resR, .int .i64 S.resN, .slice A4 S.resF.length c4] 26 (by decide))
               have hb2 := below_alloc hb (Obj.cells #[.int .i64 S.resS, .string S.resR, .int .i64 S.resN, .slice A4 S.resF.length c4] 26)
               have B := Aside0.mk (below_step B.out hb2)
               have K1 := Aside0.mk (K1.out.on hb2)
               have K2 := Aside0.mk (K2.out.on hb2)
               have K3 := Aside0.mk (K3.out.on hb2)
               have T := Aside0.mk (T.out.on hb2)
               clear ho hb hb2
               refine ⟨_, rfl, ?_⟩))
          generalize y4.alloc (Obj.cells #[.int .i64 S.resS, .string S.resR, .int .i64 S.resN, .slice A4 S.resF.length c4] 26) = x4 at T B K1 K2 K3 K4 ⊢
          generalize y4.heap.size = q4 at K4 ⊢
          have hcv := Go.Lib.run_convert_bytes_const (P := Tryd.prog) x4 27 5 #[.int .u8 120] 1 1 Tryd.underlying27 Tryd.underlying5
          go_upto_region 22 with (first
            | ((with_reducible refine gate_callee (f := 28) rfl ?_)
               refine goesL_ (some 151) rfl rfl Tryd.func28 (by kernel_rfl) rfl #[.pointer (some ⟨g1, 0, none⟩)] rfl (by (try simp only [List.map_toArray, List.map_cons, List.map_nil]); first | done | rfl) ?_
               (with_reducible refine (len_calls w.heap.size _ g1 S u0 u1 T.out.a).mono ?_)
               rintro e w8 ⟨rfl, hw8⟩
               subst w8
               refine ⟨_, rfl, ?_⟩)
            | ((with_reducible refine gate_callee (f := 28) rfl ?_)
               refine goesL_ (some 153) rfl rfl Tryd.func28 (by kernel_rfl) rfl #[.pointer (some ⟨g2, 0, none⟩)] rfl (by (try simp only [List.map_toArray, List.map_cons, List.map_nil]); first | done | rfl) ?_
               (with_reducible refine (len_calls w.heap.size _ g2 S v0 v1 T.out.b).mono ?_)
               rintro e w8 ⟨rfl, hw8⟩
               subst w8
               refine ⟨_, rfl, ?_⟩)
            | ((with_reducible refine gate_callee (f := 25) rfl ?_)
               refine goesL_ (some 159) rfl rfl Tryd.func25 (by kernel_rfl) rfl #[.pointer (some ⟨g1, 0, none⟩), .slice (some ⟨x4.heap.size, 0, none⟩) 1 1] rfl (by (try simp only [List.map_toArray, List.map_cons, List.map_nil]); first | done | rfl) ?_
               (with_reducible refine (feed_callsD w.heap.size _ g1 S u0 u1 (some ⟨x4.heap.size, 0, none⟩) [120] 1 1 rfl (x_reads T.out.a) (by omega) (by intro x hx; simp only [List.mem_singleton] at hx; subst hx; exact ⟨by decide, by decide⟩) HOK.out ((T.out.alloc _).a)).mono ?_)
               rintro e w8 ⟨z0, z1, he, hs⟩
               rw [HX1.out] at he hs
               dsimp only at he hs
               try rw [HD.out, HE.out] at he
               try simp only [errW_some, errW_none] at he
               subst he
               have B := Aside0.mk ((below_alloc B.out _).trans hs.chg.below)
               have K1 := Aside0.mk ((K1.out.on (below_alloc (Below.refl _ _) _)).fed (T.out.alloc _).a hs.chg)
               have K2 := Aside0.mk ((K2.out.on (below_alloc (Below.refl _ _) _)).fed (T.out.alloc _).a hs.chg)
               have K3 := Aside0.mk ((K3.out.on (below_alloc (Below.refl _ _) _)).fed (T.out.alloc _).a hs.chg)
               have K4 := Aside0.mk ((K4.out.on (below_alloc (Below.refl _ _) _)).fed (T.out.alloc _).a hs.chg)
               clear hs
               refine ⟨_, rfl, ?_⟩))
          have q0 : ((((0 : Nat) : Int)) == 0) = true := rfl
          have Hrequests := Aside0.mk hkq
          have Hresponses := Aside0.mk hks
          clear hkq hks
          go_wp2_with (first
            | ((with_reducible refine gate_callee (f := 23) rfl ?_)
               refine gate_guard (by rfl) ?_
               dsimp only
               refine goesL_ (some 179) rfl rfl Tryd.func23 (by kernel_rfl) rfl #[errW ((some x))] rfl (by (try simp only [List.map_toArray, List.map_cons, List.map_nil]); first | done | rfl) ?_
               (with_reducible refine (turnstilelaw09_num.calls ((some x)) _ _ (GlobE.below HGE.out B.out) rfl).mono ?_)
               rintro e w9 ⟨rfl, hb⟩
               have B := Aside0.mk (below_step B.out hb)
               have K1 := Aside0.mk (K1.out.on hb)
               have K2 := Aside0.mk (K2.out.on hb)
               have K3 := Aside0.mk (K3.out.on hb)
               have K4 := Aside0.mk (K4.out.on hb)
               clear hb
               refine ⟨_, rfl, ?_⟩)
            | ((with_reducible refine gate_callee (f := 23) rfl ?_)
               refine gate_guard (by rfl) ?_
               dsimp only
               refine goesL_ (some 181) rfl rfl Tryd.func23 (by kernel_rfl) rfl #[errW ((some x))] rfl (by (try simp only [List.map_toArray, List.map_cons, List.map_nil]); first | done | rfl) ?_
               (with_reducible refine (turnstilelaw09_num.calls ((some x)) _ _ (GlobE.below HGE.out B.out) rfl).mono ?_)
               rintro e w9 ⟨rfl, hb⟩
               have B := Aside0.mk (below_step B.out hb)
               have K1 := Aside0.mk (K1.out.on hb)
               have K2 := Aside0.mk (K2.out.on hb)
               have K3 := Aside0.mk (K3.out.on hb)
               have K4 := Aside0.mk (K4.out.on hb)
               clear hb
               refine ⟨_, rfl, ?_⟩)
            | ((with_reducible refine gate_callee (f := 23) rfl ?_)
               refine gate_guard (by rfl) ?_
               dsimp only
               refine goesL_ (some 195) rfl rfl Tryd.func23 (by kernel_rfl) rfl #[errW ((some x))] rfl (by (try simp only [List.map_toArray, List.map_cons, List.map_nil]); first | done | rfl) ?_
               (with_reducible refine (turnstilelaw09_num.calls ((some x)) _ _ (GlobE.below HGE.out B.out) rfl).mono ?_)
               rintro e w9 ⟨rfl, hb⟩
               have B := Aside0.mk (below_step B.out hb)
               have K1 := Aside0.mk (K1.out.on hb)
               have K2 := Aside0.mk (K2.out.on hb)
               have K3 := Aside0.mk (K3.out.on hb)
               have K4 := Aside0.mk (K4.out.on hb)
               clear hb
               refine ⟨_, rfl, ?_⟩)
            | ((with_reducible refine gate_callee (f := 23) rfl ?_)
               refine gate_guard (by rfl) ?_
               dsimp only
               refine goesL_ (some 197) rfl rfl Tryd.func23 (by kernel_rfl) rfl #[errW ((some x))] rfl (by (try simp only [List.map_toArray, List.map_cons, List.map_nil]); first | done | rfl) ?_
               (with_reducible refine (turnstilelaw09_num.calls ((some x)) _ _ (GlobE.below HGE.out B.out) rfl).mono ?_)
               rintro e w9 ⟨rfl, hb⟩
               have B := Aside0.mk (below_step B.out hb)
               have K1 := Aside0.mk (K1.out.on hb)
               have K2 := Aside0.mk (K2.out.on hb)
               have K3 := Aside0.mk (K3.out.on hb)
               have K4 := Aside0.mk (K4.out.on hb)
               have b1_0 := (blk_cell K1.out.box 0).trans (show _ = some _ from rfl)
               have f1_0 := blk_frozen K1.out.box 0
               have b1_1 := (blk_cell K1.out.box 1).trans (show _ = some _ from rfl)
               have f1_1 := blk_frozen K1.out.box 1
               have b1_2 := (blk_cell K1.out.box 2).trans (show _ = some _ from rfl)
               have f1_2 := blk_frozen K1.out.box 2
               have b1_3 := (blk_cell K1.out.box 3).trans (show _ = some _ from rfl)
               have f1_3 := blk_frozen K1.out.box 3
               have b2_0 := (blk_cell K2.out.box 0).trans (show _ = some _ from rfl)
               have f2_0 := blk_frozen K2.out.box 0
               have b2_1 := (blk_cell K2.out.box 1).trans (show _ = some _ from rfl)
               have f2_1 := blk_frozen K2.out.box 1
               have b2_2 := (blk_cell K2.out.box 2).trans (show _ = some _ from rfl)
               have f2_2 := blk_frozen K2.out.box 2
               have b2_3 := (blk_cell K2.out.box 3).trans (show _ = some _ from rfl)
               have f2_3 := blk_frozen K2.out.box 3
               clear hb
               refine ⟨_, rfl, ?_⟩)
            | ((with_reducible refine gate_callee (f := 14) rfl ?_)
               refine gate_guard (by rfl) ?_
               dsimp only
               refine goesL_ (some 206) rfl rfl Tryd.func14 (by kernel_rfl) rfl #[.agg #[.string S.reqM, .string S.reqT, .int .i64 S.reqN, .slice A1 S.reqF.length c1], .agg #[.string S.reqM, .string S.reqT, .int .i64 S.reqN, .slice A2 S.reqF.length c2]] rfl (by (try simp only [List.map_toArray, List.map_cons, List.map_nil]); first | done | rfl) ?_
               (with_reducible refine (turnstilelaw09_requests.calls _ S.reqM S.reqT S.reqN A1 c1 S.reqF S.reqM S.reqT S.reqN A2 c2 S.reqF true _ (Kd.R_reads' K1.out.row).2.2 (Kd.R_reads' K1.out.row).2.1 (Kd.R_reads' K2.out.row).2.2 (Kd.R_reads' K2.out.row).2.1 Hrequests.out).mono ?_)
               rintro e w9 ⟨rfl, hb⟩
               have B := Aside0.mk (below_step B.out hb)
               have K1 := Aside0.mk (K1.out.on hb)
               have K2 := Aside0.mk (K2.out.on hb)
               have K3 := Aside0.mk (K3.out.on hb)
               have K4 := Aside0.mk (K4.out.on hb)
               clear hb
               refine ⟨_, rfl, ?_⟩)
            | ((with_reducible refine gate_callee (f := 23) rfl ?_)
               refine gate_guard (by rfl) ?_
               dsimp only
               refine goesL_ (some 210) rfl rfl Tryd.func23 (by kernel_rfl) rfl #[errW (S.reqE)] rfl (by (try simp only [List.map_toArray, List.map_cons, List.map_nil]); first | done | rfl) ?_
               (with_reducible refine (turnstilelaw09_num.calls (S.reqE) _ _ (GlobE.below HGE.out B.out) rfl).mono ?_)
               rintro e w9 ⟨rfl, hb⟩
               have B := Aside0.mk (below_step B.out hb)
               have K1 := Aside0.mk (K1.out.on hb)
               have K2 := Aside0.mk (K2.out.on hb)
               have K3 := Aside0.mk (K3.out.on hb)
               have K4 := Aside0.mk (K4.out.on hb)
               clear hb
               refine ⟨_, rfl, ?_⟩)
            | ((with_reducible refine gate_callee (f := 23) rfl ?_)
               refine gate_guard (by rfl) ?_
               dsimp only
               refine goesL_ (some 212) rfl rfl Tryd.func23 (by kernel_rfl) rfl #[errW (S.reqE)] rfl (by (try simp only [List.map_toArray, List.map_cons, List.map_nil]); first | done | rfl) ?_
               (with_reducible refine (turnstilelaw09_num.calls (S.reqE) _ _ (GlobE.below HGE.out B.out) rfl).mono ?_)
               rintro e w9 ⟨rfl, hb⟩
               have B := Aside0.mk (below_step B.out hb)
               have K1 := Aside0.mk (K1.out.on hb)
               have K2 := Aside0.mk (K2.out.on hb)
               have K3 := Aside0.mk (K3.out.on hb)
               have K4 := Aside0.mk (K4.out.on hb)
               have b3_0 := (blk_cell K3.out.box 0).trans (show _ = some _ from rfl)
               have f3_0 := blk_frozen K3.out.box 0
               have b3_1 := (blk_cell K3.out.box 1).trans (show _ = some _ from rfl)
               have f3_1 := blk_frozen K3.out.box 1
               have b3_2 := (blk_cell K3.out.box 2).trans (show _ = some _ from rfl)
               have f3_2 := blk_frozen K3.out.box 2
               have b3_3 := (blk_cell K3.out.box 3).trans (show _ = some _ from rfl)
               have f3_3 := blk_frozen K3.out.box 3
               have b4_0 := (blk_cell K4.out.box 0).trans (show _ = some _ from rfl)
               have f4_0 := blk_frozen K4.out.box 0
               have b4_1 := (blk_cell K4.out.box 1).trans (show _ = some _ from rfl)
               have f4_1 := blk_frozen K4.out.box 1
               have b4_2 := (blk_cell K4.out.box 2).trans (show _ = some _ from rfl)
               have f4_2 := blk_frozen K4.out.box 2
               have b4_3 := (blk_cell K4.out.box 3).trans (show _ = some _ from rfl)
               have f4_3 := blk_frozen K4.out.box 3
               clear hb
               refine ⟨_, rfl, ?_⟩)
            | ((with_reducible refine gate_callee (f := 17) rfl ?_)
               refine gate_guard (by rfl) ?_
               dsimp only
               refine goesL_ (some 218) rfl rfl Tryd.func17 (by kernel_rfl) rfl #[.agg #[.int .i64 S.resS, .string S.resR, .int .i64 S.resN, .slice A3 S.resF.length c3], .agg #[.int .i64 S.resS, .string S.resR, .int .i64 S.resN, .slice A4 S.resF.length c4]] rfl (by (try simp only [List.map_toArray, List.map_cons, List.map_nil]); first | done | rfl) ?_
               (with_reducible refine (turnstilelaw09_responses.calls _ S.resS S.resR S.resN A3 c3 S.resF S.resS S.resR S.resN A4 c4 S.resF true _ (Kd.R_reads' K3.out.row).2.2 (Kd.R_reads' K3.out.row).2.1 (Kd.R_reads' K4.out.row).2.2 (Kd.R_reads' K4.out.row).2.1 Hresponses.out).mono ?_)
               rintro e w9 ⟨rfl, hb⟩
               have B := Aside0.mk (below_step B.out hb)
               have K1 := Aside0.mk (K1.out.on hb)
               have K2 := Aside0.mk (K2.out.on hb)
               have K3 := Aside0.mk (K3.out.on hb)
               have K4 := Aside0.mk (K4.out.on hb)
               clear hb
               refine ⟨_, rfl, ?_⟩)
            | ((with_reducible refine gate_callee (f := 23) rfl ?_)
               refine gate_guard (by rfl) ?_
               dsimp only
               refine goesL_ (some 222) rfl rfl Tryd.func23 (by kernel_rfl) rfl #[errW (S.resE)] rfl (by (try simp only [List.map_toArray, List.map_cons, List.map_nil]); first | done | rfl) ?_
               (with_reducible refine (turnstilelaw09_num.calls (S.resE) _ _ (GlobE.below HGE.out B.out) rfl).mono ?_)
               rintro e w9 ⟨rfl, hb⟩
               have B := Aside0.mk (below_step B.out hb)
               have K1 := Aside0.mk (K1.out.on hb)
               have K2 := Aside0.mk (K2.out.on hb)
               have K3 := Aside0.mk (K3.out.on hb)
               have K4 := Aside0.mk (K4.out.on hb)
               clear hb
               refine ⟨_, rfl, ?_⟩)
            | ((with_reducible refine gate_callee (f := 23) rfl ?_)
               refine gate_guard (by rfl) ?_
               dsimp only
               refine goesL_ (some 224) rfl rfl Tryd.func23 (by kernel_rfl) rfl #[errW (S.resE)] rfl (by (try simp only [List.map_toArray, List.map_cons, List.map_nil]); first | done | rfl) ?_
               (with_reducible refine (turnstilelaw09_num.calls (S.resE) _ _ (GlobE.below HGE.out B.out) rfl).mono ?_)
               rintro e w9 ⟨rfl, hb⟩
               have B := Aside0.mk (below_step B.out hb)
               have K1 := Aside0.mk (K1.out.on hb)
               have K2 := Aside0.mk (K2.out.on hb)
               have K3 := Aside0.mk (K3.out.on hb)
               have K4 := Aside0.mk (K4.out.on hb)
               clear hb
               refine ⟨_, rfl, ?_⟩)
            | ((with_reducible refine gate_callee (f := 18) rfl ?_)
               refine gate_guard (by rfl) ?_
               dsimp only
               refine goesL_ (some 231) rfl rfl Tryd.func18 (by kernel_rfl) rfl #[] rfl (by (try simp only [List.map_toArray, List.map_cons, List.map_nil]); first | done | rfl) ?_
               (with_reducible refine (turnstilelaw09_sure.calls true _ rfl).mono ?_)
               rintro e w9 ⟨rfl, hb⟩
               refine ⟨_, rfl, ?_⟩
               have BZ := Aside0.mk (below_step B.out hb)
               clear hb))
          go_ret
          exact ⟨rfl, BZ.out⟩

end Go.Proofs.YtmmlacbcolfngaaDoor.Q
