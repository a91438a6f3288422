/- The method of a head's reader that takes bytes. By hand. -/
import Derived.Test.YtmmlacbcolfngaaDoorHRdByte
import Derived.Test.YtmmlacbcolfngaaDoorHRdStart
namespace Go.Proofs.YtmmlacbcolfngaaDoor.Q
open Go.RowKit Go.Proofs.YtmmlacbcolfngaaDoorW.PrintWords Go.Proofs.YtmmlacbcolfngaaDoorW.PrintLast Go.Proofs.YtmmlacbcolfngaaDoorW.PrintMore
attribute [local go_sem] max2_int min2_int max_two min_two max_three min_three max_four min_four
set_option linter.unusedVariables false
set_option linter.unusedSimpArgs false
set_option maxRecDepth 8000

/-- What all readers are. -/
structure RdSt.OK (s : RdSt) : Prop where
  word : (s.word.length : Int) ≤ s.len
  field : (s.field.length : Int) ≤ s.len
  len : 0 ≤ s.len
  most : s.most ≤ 65536
  in_ : s.err = none → s.len ≤ s.most

theorem push_len (s : RdSt) (c : Int) : (s.push c).word.length = s.word.length + 1 ∧ (s.push c).field = s.field ∧ (s.push c).len = s.len ∧ (s.push c).most = s.most := by
  simp [RdSt.push]

structure Near (s t : RdSt) : Prop where
  word : t.word.length ≤ s.word.length + 1
  field : t.field.length ≤ s.field.length + 1
  len : t.len = s.len
  most : t.most = s.most
  asks : t.asks = s.asks

theorem req_near (s : RdSt) (c : Int) : Near s (s.reqLine c).1 := by
  unfold RdSt.reqLine
  (repeat' split) <;> constructor <;> simp [RdSt.push, RdSt.taken]
theorem stat_near (s : RdSt) (c : Int) : Near s (s.statLine c).1 := by
  unfold RdSt.statLine
  (repeat' split) <;> constructor <;> simp [RdSt.push, RdSt.taken]
theorem fld_near (s : RdSt) (c : Int) : Near s (s.fldLine c).1 := by
  unfold RdSt.fldLine
  (repeat' split) <;> constructor <;> simp [RdSt.push, RdSt.taken]

theorem judge_in (s2 : RdSt) (ok : Bool) (er : Int) (h : judge s2 ok er = none) : s2.len ≤ s2.most := by
  unfold judge at h
  split at h
  · cases h
  · omega

theorem byte_ok (s : RdSt) (c : Int) (h : s.OK) : RdSt.OK {(s.byte c).1 with err := (s.byte c).2} := by
  have key : ∀ (t : RdSt) (ok : Bool) (er : Int), Near {s with len := s.len + 1} t → RdSt.OK {t with err := judge t ok er} := by
    intro t ok er n
    have h1 := h.word
    have h2 := h.field
    have h3 := h.len
    have n1 := n.word
    have n2 := n.field
    have n3 : t.len = s.len + 1 := n.len
    have n4 : t.most = s.most := n.most
    refine ⟨?_, ?_, ?_, ?_, fun e => judge_in t ok er e⟩
    · show (t.word.length : Int) ≤ t.len
      have : t.word.length ≤ s.word.length + 1 := n1
      omega
    · show (t.field.length : Int) ≤ t.len
      have : t.field.length ≤ s.field.length + 1 := n2
      omega
    · show 0 ≤ t.len
      omega
    · show t.most ≤ 65536
      have := h.most
      omega
  unfold RdSt.byte
  split
  · exact key {s with len := s.len + 1, at_ := 7} _ _ (by constructor <;> simp)
  · split
    · exact key _ _ _ (fld_near _ _)
    · split
      · exact key _ _ _ (req_near _ _)
      · exact key _ _ _ (stat_near _ _)

/-- Bytes. -/
def RdSt.feed : RdSt → List Int → RdSt × Nat
  | s, [] => (s, 0)
  | s, c :: l => if s.err = none ∧ s.at_ ≠ 11 then ((({(s.byte c).1 with err := (s.byte c).2} : RdSt).feed l).1, (({(s.byte c).1 with err := (s.byte c).2} : RdSt).feed l).2 + 1) else (s, 0)

theorem feed_stop (s : RdSt) (h : ¬(s.err = none ∧ s.at_ ≠ 11)) : ∀ l, s.feed l = (s, 0)
  | [] => rfl
  | c :: l => by rw [RdSt.feed, if_neg h]
theorem feed_go (s : RdSt) (h : s.err = none ∧ s.at_ ≠ 11) (c : Int) (l : List Int) : s.feed (c :: l) = ((({(s.byte c).1 with err := (s.byte c).2} : RdSt).feed l).1, (({(s.byte c).1 with err := (s.byte c).2} : RdSt).feed l).2 + 1) := by rw [RdSt.feed, if_pos h]

set_option maxHeartbeats 3200000 in
theorem feed_callsG (base : Nat) (w : World) (g : Nat) (s : RdSt) (u0 u1 : Value) (A : Option Addr) (bs : List Int) (cb : Nat) (hC : ∀ W' v0 v1, Chg base w g u0 u1 W' v0 v1 → (Kd.int .u8).C W' A bs.length bs) (hn : bs.length ≤ 9000000000000000000) (hx : ∀ x, x ∈ bs → 0 ≤ x ∧ x ≤ 255)
    (ho : s.OK) (h : Rd base w g s u0 u1) :
    Calls Tryd.prog 25 #[.pointer (some ⟨g, 0, none⟩), .slice A bs.length cb] w fun e w' =>
      ∃ v0 v1, e = .returned (.tuple #[.int .i64 ((s.feed bs).2 : Int), .bool ((s.feed bs).1.err.isNone && (s.feed bs).1.at_ == 11), errW (s.feed bs).1.err]) ∧ St base w g u0 u1 w' (s.feed bs).1 v0 v1 := by
  have HC := Aside0.mk hC
  have HO := Aside0.mk ho
  have HX := Aside0.mk hx
  have X := Aside0.mk h.st
  clear hC ho hx h
  go_enter Tryd.func25, Tryd.ntmps25
  go_wp2
  go_loopg [7] (bs.length + 1) (fun kq v7 w' => ∃ (i : Nat) (s' : RdSt) (v0 v1 : Value), v7 = .int .i64 (i : Int) ∧ Aside0 (i + kq = bs.length + 1 ∧ i ≤ bs.length ∧ s'.OK ∧ (s.feed bs).1 = (s'.feed (bs.drop i)).1 ∧ (s.feed bs).2 = i + (s'.feed (bs.drop i)).2) ∧ Aside0 (St base w g u0 u1 w' s' v0 v1))
  case atStart => exact ⟨0, s, u0, u1, rfl, ⟨by omega, by omega, HO.out, rfl, by simp⟩, X⟩
  case round =>
    obtain ⟨i, s', v0, v1, rfl, HI, Y⟩ := hrel
    clear X
    have k2 := Y.out.rd.c2
    have k5 := Y.out.rd.c5
    have g2 := blk_frozen Y.out.rd.blk 2
    have g5 := blk_frozen Y.out.rd.blk 5
    by_cases hi : i < bs.length
    · have di : decide ((i : Int) < (bs.length : Int)) = true := decide_eq_true (by omega)
      cases he : s'.err with
      | some x =>
        rw [he, errW_some] at k5
        have hs := feed_stop s' (fun q => by rw [he] at q; exact absurd q.1 (by simp)) (bs.drop i)
        have E1 : (s.feed bs).1 = s' := by rw [HI.out.2.2.2.1, hs]
        have E2 : (s.feed bs).2 = i := by rw [HI.out.2.2.2.2, hs]; rfl
        have EE := Aside0.mk (And.intro E1 (And.intro E2 he))
        clear hs E1 E2 he
        go_wp2
        go_still (by kernel_rfl)
        go_wp2
        go_ret3
        refine ⟨v0, v1, ?_, ?_⟩
        · rw [EE.out.1, EE.out.2.1, EE.out.2.2]; rfl
        · rw [EE.out.1]; exact Y.out.drew
      | none =>
        rw [he, errW_none] at k5
        by_cases ha : s'.at_ = 11
        · have hs := feed_stop s' (fun q => q.2 ha) (bs.drop i)
          have E1 : (s.feed bs).1 = s' := by rw [HI.out.2.2.2.1, hs]
          have E2 : (s.feed bs).2 = i := by rw [HI.out.2.2.2.2, hs]; rfl
          have EE := Aside0.mk (And.intro E1 (And.intro E2 (And.intro he ha)))
          have da : (s'.at_ == 11) = true := by simpa using ha
          rw [ha] at k2
          clear hs E1 E2 he ha da
          go_wp2
          go_still (by kernel_rfl)
          go_wp2
          go_ret3
          refine ⟨v0, v1, ?_, ?_⟩
          · rw [EE.out.1, EE.out.2.1, EE.out.2.2.1, EE.out.2.2.2]; rfl
          · rw [EE.out.1]; exact Y.out.drew
        · have da : (s'.at_ == 11) = false := by simpa using ha
          have EE := Aside0.mk (And.intro he ha)
          clear he ha
          obtain ⟨ad, ea, hx⟩ := Kd.at_int (HC.out _ _ _ Y.out.chg) (i : Int) (by omega) (by omega)
          subst ea
          rw [Int.toNat_natCast] at hx
          have hcx : 0 ≤ rd bs (i : Int) ∧ rd bs (i : Int) ≤ 255 := by
            unfold rd
            rw [Int.toNat_natCast, List.getD_eq_getElem?_getD, List.getElem?_eq_getElem hi, Option.getD_some]
            exact HX.out _ (List.getElem_mem hi)
          have hdr : bs.drop i = rd bs (i : Int) :: bs.drop (i + 1) := by
            unfold rd
            rw [Int.toNat_natCast, List.getD_eq_getElem?_getD, List.getElem?_eq_getElem hi, Option.getD_some]
            exact List.drop_eq_getElem_cons hi
          have hw : wrap64 ((i : Int) + 1) = (i : Int) + 1 := by unfold wrap64; omega
          have HI2 := Aside0.mk (And.intro hi (And.intro hdr hcx))
          clear hdr hcx
          have p : (0 ≤ (i : Int)) = True := eq_true (by omega)
          have q : ((i : Int) < (bs.length : Int)) = True := eq_true (by omega)
          cases gk with
          | zero => exact absurd HI.out.1 (by omega)
          | succ k1 =>
          cases hrb : (s'.byte (rd bs (i : Int))).2 with
          | none =>
            have HRB := Aside0.mk hrb
            clear hrb
            go_wp2_with (first
              | ((with_reducible refine gate_callee (f := 60) rfl ?_)
                 refine goesL_ (some 35) rfl rfl Tryd.func60 (by kernel_rfl) rfl #[.pointer (some ⟨g, 0, none⟩), .int .u8 (rd bs (i : Int))] rfl (by (try simp only [List.map_toArray, List.map_cons, List.map_nil]); first | done | rfl) ?_
                 (with_reducible refine (byte_calls _ _ g s' v0 v1 (rd bs (i : Int)) HI2.out.2.2.1 HI2.out.2.2.2 (by have := HI.out.2.2.1; have := this.most; have := HI.out.2.2.1.word; have := HI.out.2.2.1.in_ EE.out.1; omega) (by have := HI.out.2.2.1; have := this.most; have := HI.out.2.2.1.field; have := HI.out.2.2.1.in_ EE.out.1; omega) HI.out.2.2.1.len (by have := HI.out.2.2.1; have := this.most; have := HI.out.2.2.1.in_ EE.out.1; omega) Y.out.rd).mono ?_)
                 rintro e w3 ⟨x3, y3, rfl, hd⟩
                 have Z := Aside0.mk (Y.out.trans hd)
                 have k5' := hd.rd.c5
                 have g5' := blk_frozen hd.rd.blk 5
                 clear hd
                 rw [HRB.out, errW_none]
                 refine ⟨_, rfl, ?_⟩))
            go_roundg k1
            case measure => omega
            case rel =>
              refine ⟨i + 1, {(s'.byte (rd bs (i : Int))).1 with err := (s'.byte (rd bs (i : Int))).2}, x3, y3, by push_cast; rfl, ⟨?_⟩, ⟨Z.out.put 5 .nilIface (by rw [HRB.out]; rfl) rfl rfl⟩⟩
              have h1 := HI.out
              have h2 := HI2.out
              refine ⟨by omega, by omega, byte_ok s' _ h1.2.2.1, ?_, ?_⟩
              · rw [h1.2.2.2.1, h2.2.1, feed_go s' EE.out]
              · rw [h1.2.2.2.2, h2.2.1, feed_go s' EE.out]
                show i + (_ + 1) = i + 1 + _
                omega
          | some x =>
            have HRB := Aside0.mk hrb
            clear hrb
            go_wp2_with (first
              | ((with_reducible refine gate_callee (f := 60) rfl ?_)
                 refine goesL_ (some 35) rfl rfl Tryd.func60 (by kernel_rfl) rfl #[.pointer (some ⟨g, 0, none⟩), .int .u8 (rd bs (i : Int))] rfl (by (try simp only [List.map_toArray, List.map_cons, List.map_nil]); first | done | rfl) ?_
                 (with_reducible refine (byte_calls _ _ g s' v0 v1 (rd bs (i : Int)) HI2.out.2.2.1 HI2.out.2.2.2 (by have := HI.out.2.2.1; have := this.most; have := HI.out.2.2.1.word; have := HI.out.2.2.1.in_ EE.out.1; omega) (by have := HI.out.2.2.1; have := this.most; have := HI.out.2.2.1.field; have := HI.out.2.2.1.in_ EE.out.1; omega) HI.out.2.2.1.len (by have := HI.out.2.2.1; have := this.most; have := HI.out.2.2.1.in_ EE.out.1; omega) Y.out.rd).mono ?_)
                 rintro e w3 ⟨x3, y3, rfl, hd⟩
                 have Z := Aside0.mk (Y.out.trans hd)
                 have k5' := hd.rd.c5
                 have g5' := blk_frozen hd.rd.blk 5
                 clear hd
                 rw [HRB.out, errW_some]
                 refine ⟨_, rfl, ?_⟩))
            go_roundg k1
            case measure => omega
            case rel =>
              refine ⟨i + 1, {(s'.byte (rd bs (i : Int))).1 with err := (s'.byte (rd bs (i : Int))).2}, x3, y3, by push_cast; rfl, ⟨?_⟩, ⟨Z.out.put 5 (.iface 98 (.int .i64 x)) (by rw [HRB.out]; rfl) rfl rfl⟩⟩
              have h1 := HI.out
              have h2 := HI2.out
              refine ⟨by omega, by omega, byte_ok s' _ h1.2.2.1, ?_, ?_⟩
              · rw [h1.2.2.2.1, h2.2.1, feed_go s' EE.out]
              · rw [h1.2.2.2.2, h2.2.1, feed_go s' EE.out]
                show i + (_ + 1) = i + 1 + _
                omega
    · have hil : i = bs.length := by have := HI.out.2.1; omega
      have di : decide ((i : Int) < (bs.length : Int)) = false := decide_eq_false (by omega)
      have hdn : bs.drop i = [] := by rw [hil]; simp
      have E1 : (s.feed bs).1 = s' := by rw [HI.out.2.2.2.1, hdn]; rfl
      have E2 : (s.feed bs).2 = i := by rw [HI.out.2.2.2.2, hdn]; rfl
      have EE := Aside0.mk (And.intro E1 E2)
      clear E1 E2 hdn
      have HL := Aside0.mk hil
      clear hil
      cases he : s'.err with
      | some x =>
        rw [he, errW_some] at k5
        have HE := Aside0.mk he
        clear he
        go_wp2
        go_still (by kernel_rfl)
        go_wp2
        go_ret3
        refine ⟨v0, v1, ?_, ?_⟩
        · rw [EE.out.1, EE.out.2, HE.out]; rfl
        · rw [EE.out.1]; exact Y.out.drew
      | none =>
        rw [he, errW_none] at k5
        have HE := Aside0.mk he
        clear he
        go_wp2
        go_still (by kernel_rfl)
        go_wp2
        go_ret3
        refine ⟨v0, v1, ?_, ?_⟩
        · rw [EE.out.1, EE.out.2, HE.out]; rfl
        · rw [EE.out.1]; exact Y.out.drew

theorem feed_calls (w0 w : World) (g : Nat) (s : RdSt) (u0 u1 : Value) (A : Option Addr) (bs : List Int) (cb : Nat) (hC : (Kd.int .u8).C w0 A bs.length bs) (hn : bs.length ≤ 9000000000000000000) (hx : ∀ x, x ∈ bs → 0 ≤ x ∧ x ≤ 255)
    (hB : Below w0.heap.size w0 w) (ho : s.OK) (h : Rd w0.heap.size w g s u0 u1) :
    Calls Tryd.prog 25 #[.pointer (some ⟨g, 0, none⟩), .slice A bs.length cb] w fun e w' =>
      ∃ v0 v1, e = .returned (.tuple #[.int .i64 ((s.feed bs).2 : Int), .bool ((s.feed bs).1.err.isNone && (s.feed bs).1.at_ == 11), errW (s.feed bs).1.err]) ∧ St w0.heap.size w g u0 u1 w' (s.feed bs).1 v0 v1 :=
  feed_callsG w0.heap.size w g s u0 u1 A bs cb (fun W' v0 v1 hc => Kd.C_below hC (hB.trans hc.below)) hn hx ho h

end Go.Proofs.YtmmlacbcolfngaaDoor.Q
