/- All bytes at once for a head's reader. By hand. -/
import Derived.Test.YtmmlacbcolfngaaDoorHRdFeed
namespace Go.Proofs.YtmmlacbcolfngaaDoor.Q
open Go.RowKit Go.Proofs.YtmmlacbcolfngaaDoorW.PrintWords Go.Proofs.YtmmlacbcolfngaaDoorW.PrintLast Go.Proofs.YtmmlacbcolfngaaDoorW.PrintMore
attribute [local go_sem] max2_int min2_int max_two min_two max_three min_three max_four min_four
set_option linter.unusedVariables false
set_option linter.unusedSimpArgs false
set_option maxRecDepth 8000

/-- How many, and the error. -/
def RdSt.all (s : RdSt) (bs : List Int) : Int × Option Int :=
  match (s.feed bs).1.err with
  | some x => (0, some x)
  | none => if (s.feed bs).1.at_ = 11 then ((s.feed bs).2, none) else (0, some 32)

theorem all_bad (w : World) (x : Int) (v : Value) :
    Calls Tryd.prog 53 #[.pointer none, errW (some x), v] w fun e w' => e = .returned (.tuple #[.int .i64 0, errW (some x)]) ∧ Below w.heap.size w w' := by
  rw [errW_some]
  go_enter Tryd.func53, Tryd.ntmps53
  go_wp2
  go_ret2
  exact ⟨rfl, Below.refl _ _⟩

theorem all_calls (w0 w : World) (g : Nat) (s : RdSt) (u0 u1 : Value) (A : Option Addr) (bs : List Int) (cb : Nat) (hC : (Kd.int .u8).C w0 A bs.length bs) (hn : bs.length ≤ 9000000000000000000) (hx : ∀ x, x ∈ bs → 0 ≤ x ∧ x ≤ 255)
    (hB : Below w0.heap.size w0 w) (ho : s.OK) (h : Rd w0.heap.size w g s u0 u1) :
    Calls Tryd.prog 53 #[.pointer (some ⟨g, 0, none⟩), errW none, .slice A bs.length cb] w fun e w' =>
      ∃ v0 v1, e = .returned (.tuple #[.int .i64 (s.all bs).1, errW (s.all bs).2]) ∧ St w0.heap.size w g u0 u1 w' (s.feed bs).1 v0 v1 := by
  have HC := Aside0.mk hC
  have HO := Aside0.mk ho
  have HX := Aside0.mk hx
  have HB := Aside0.mk hB
  have X := Aside0.mk h
  clear hC ho hx hB h
  rw [errW_none]
  unfold RdSt.all
  go_enter Tryd.func53, Tryd.ntmps53
  cases he : (s.feed bs).1.err with
  | some x =>
    have HE := Aside0.mk he
    clear he
    go_wp2_with (first
      | ((with_reducible refine gate_callee (f := 25) rfl ?_)
         refine goesL_ (some 16) rfl rfl Tryd.func25 (by kernel_rfl) rfl #[.pointer (some ⟨g, 0, none⟩), .slice A bs.length cb] rfl (by (try simp only [List.map_toArray, List.map_cons, List.map_nil]); first | done | rfl) ?_
         (with_reducible refine (feed_calls w0 w g s u0 u1 A bs cb HC.out hn HX.out HB.out HO.out X.out).mono ?_)
         rintro e w2 ⟨v0, v1, rfl, hd⟩
         have Z := Aside0.mk hd
         clear hd
         rw [HE.out, errW_some]
         refine ⟨_, rfl, ?_⟩))
    go_ret2
    first | exact ⟨v0, v1, rfl, Z.out⟩ | exact ⟨rfl, v0, v1, Z.out⟩
  | none =>
    have HE := Aside0.mk he
    clear he
    show Code.wp _ _ _ _ _
    by_cases ha : (s.feed bs).1.at_ = 11
    · have HA := Aside0.mk ha
      clear ha
      simp only [HA.out, if_true]
      go_wp2_with (first
        | ((with_reducible refine gate_callee (f := 25) rfl ?_)
           refine goesL_ (some 16) rfl rfl Tryd.func25 (by kernel_rfl) rfl #[.pointer (some ⟨g, 0, none⟩), .slice A bs.length cb] rfl (by (try simp only [List.map_toArray, List.map_cons, List.map_nil]); first | done | rfl) ?_
           (with_reducible refine (feed_calls w0 w g s u0 u1 A bs cb HC.out hn HX.out HB.out HO.out X.out).mono ?_)
           rintro e w2 ⟨v0, v1, rfl, hd⟩
           have Z := Aside0.mk hd
           clear hd
           rw [HE.out, errW_none, HA.out]
           refine ⟨_, rfl, ?_⟩))
      go_ret2
      first | exact ⟨v0, v1, rfl, Z.out⟩ | exact ⟨rfl, v0, v1, Z.out⟩
    · have HA := Aside0.mk (show ((s.feed bs).1.at_ == 11) = false by simpa using ha)
      simp only [if_neg ha]
      clear ha
      go_wp2_with (first
        | ((with_reducible refine gate_callee (f := 25) rfl ?_)
           refine goesL_ (some 16) rfl rfl Tryd.func25 (by kernel_rfl) rfl #[.pointer (some ⟨g, 0, none⟩), .slice A bs.length cb] rfl (by (try simp only [List.map_toArray, List.map_cons, List.map_nil]); first | done | rfl) ?_
           (with_reducible refine (feed_calls w0 w g s u0 u1 A bs cb HC.out hn HX.out HB.out HO.out X.out).mono ?_)
           rintro e w2 ⟨v0, v1, rfl, hd⟩
           have Z := Aside0.mk hd
           clear hd
           rw [HE.out, errW_none, HA.out]
           refine ⟨_, rfl, ?_⟩))
      go_ret2
      first | exact ⟨v0, v1, rfl, Z.out⟩ | exact ⟨rfl, v0, v1, Z.out⟩

end Go.Proofs.YtmmlacbcolfngaaDoor.Q
