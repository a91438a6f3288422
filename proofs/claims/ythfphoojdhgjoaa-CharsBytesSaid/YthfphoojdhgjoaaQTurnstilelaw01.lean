/- What Go functions that a statement reaches come to, printed by a program of this session over the kit's printer; for all inputs at which the printed Lean function answers. -/
import Derived.Test.YthfphoojdhgjoaaQ0
import Derived.Test.YthfphoojdhgjoaaQChars
namespace Go.Proofs.Ythfphoojdhgjoaa.Q
open Go.RowKit Go.Proofs.YthfphoojdhgjoaaW.PrintWords Go.Proofs.YthfphoojdhgjoaaW.PrintLast Go.Proofs.YthfphoojdhgjoaaW.PrintMore
attribute [local go_sem] max2_int min2_int max_two min_two max_three min_three max_four min_four
set_option linter.unusedVariables false
set_option linter.unusedSimpArgs false

/-! ### turnstilelaw01_sure: function 16 -/
def turnstilelaw01_sure.f (k : Nat)  : Option (Bool) := (chars_Decimal.f k (⟨#[48, 48, 55]⟩ : ByteArray) 10).bind fun bt116 => (if bt116.1 = 7 then (if bt116.2.isNone = true then ((chars_Text.f (-12)).bind fun t119 => (if t119.toList = ([45, 49, 50] : List UInt8) then ((chars_IsToken.f k (⟨#[120, 45, 121]⟩ : ByteArray)).bind fun t120 => (some t120)) else (some false))) else (some false)) else (some false))
theorem turnstilelaw01_sure.mono : ∀ k, LeO (turnstilelaw01_sure.f k ) (turnstilelaw01_sure.f (k + 1) ) := by
  intro  k
  unfold turnstilelaw01_sure.f
  repeat' first
      | (with_reducible exact chars_Decimal.mono _ _ _)
      | (with_reducible exact chars_IsToken.mono _ _)
      | (with_reducible exact LeO.refl _)
      | (with_reducible exact LeO.none _)
      | (with_reducible refine LeO.ite ?_ ?_)
      | (with_reducible refine LeO.bind ?_ (fun _ => ?_))
      | exact chars_Decimal.mono _ _ _
      | exact chars_IsToken.mono _ _
      | exact LeO.none _
      | refine LeO.ite ?_ ?_
      | refine LeO.bind ?_ (fun _ => ?_)
set_option maxHeartbeats 8000000 in
set_option maxRecDepth 100000 in
theorem turnstilelaw01_sure.calls (k : Nat)  (r : Bool) (w : World) (h : turnstilelaw01_sure.f k  = some r) :
    Calls Try.prog 16 #[] w fun e w' => e = .returned (.bool r) ∧ Below w.heap.size w w' := by
  have hu30 := Try.underlying30
  have hu37 := Try.underlying37
  have HB := Aside0.mk (Below.refl w.heap.size w)
  have H : ((chars_Decimal.f k (⟨#[48, 48, 55]⟩ : ByteArray) 10).bind fun bt116 => (if bt116.1 = 7 then (if bt116.2.isNone = true then ((chars_Text.f (-12)).bind fun t119 => (if t119.toList = ([45, 49, 50] : List UInt8) then ((chars_IsToken.f k (⟨#[120, 45, 121]⟩ : ByteArray)).bind fun t120 => (some t120)) else (some false))) else (some false)) else (some false))) = some r := h
  clear h
  replace H := Option.bind_eq_some_iff.mp H
  obtain ⟨⟨t116, t117⟩, A10, H⟩ := H
  replace H : (if t116 = 7 then (if t117.isNone = true then ((chars_Text.f (-12)).bind fun t119 => (if t119.toList = ([45, 49, 50] : List UInt8) then ((chars_IsToken.f k (⟨#[120, 45, 121]⟩ : ByteArray)).bind fun t120 => (some t120)) else (some false))) else (some false)) else (some false)) = some r := H
  have A1 := Aside0.mk A10
  clear A10
  by_cases c2 : t116 = 7
  · rw [if_pos c2] at H
    have c2b0 : (t116 == 7) = true := beq_iff_eq.mpr c2
    have c2b1 : (t116 != 7) = false := bne_eq_false_iff_eq.mpr c2
    clear c2
    rcases t117 with _ | q118
    · have H1 : ((chars_Text.f (-12)).bind fun t119 => (if t119.toList = ([45, 49, 50] : List UInt8) then ((chars_IsToken.f k (⟨#[120, 45, 121]⟩ : ByteArray)).bind fun t120 => (some t120)) else (some false))) = some r := by rw [if_pos (show (none : Option Int).isNone = true by rfl)] at H; exact H
      clear H
      have H := H1
      clear H1
      try simp only [errW_none, errW_some]
      replace H := Option.bind_eq_some_iff.mp H
      obtain ⟨t119, A30, H⟩ := H
      replace H : (if t119.toList = ([45, 49, 50] : List UInt8) then ((chars_IsToken.f k (⟨#[120, 45, 121]⟩ : ByteArray)).bind fun t120 => (some t120)) else (some false)) = some r := H
      have A3 := Aside0.mk A30
      clear A30
      by_cases c4 : t119.toList = ([45, 49, 50] : List UInt8)
      · rw [if_pos c4] at H
        have c4b0 : (t119.toList == ([45, 49, 50] : List UInt8)) = true := beq_iff_eq.mpr c4
        have c4b1 : (t119.toList != ([45, 49, 50] : List UInt8)) = false := bne_eq_false_iff_eq.mpr c4
        clear c4
        replace H := Option.bind_eq_some_iff.mp H
        obtain ⟨t120, A50, H⟩ := H
        replace H : (some t120) = some r := H
        have A5 := Aside0.mk A50
        clear A50
        obtain rfl := Option.some.inj H
        go_enter Try.func16, Try.ntmps16
        go_wp2_with (first | ((with_reducible refine gate_callee (f := 20) rfl ?_); refine goesL_ (some 4) rfl rfl Try.func20 (by kernel_rfl) rfl #[.string (⟨#[48, 48, 55]⟩ : ByteArray), .int .i64 10] rfl (by (try simp only [List.map_toArray, List.map_cons, List.map_nil]); first | done | rfl | (simp only [List.length_drop, List.length_take]; rfl)) ?_; (with_reducible refine (chars_Decimal.calls k (⟨#[48, 48, 55]⟩ : ByteArray) 10 t116 none _ A1.out).mono ?_); rintro e w' ⟨rfl, ⟨nd, rfl⟩⟩; refine ⟨_, rfl, ?_⟩; (try simp only [errW_none, errW_some])) | (go_at_call 21; (with_reducible refine (chars_Text.calls (-12) t119 _ A3.out).mono ?_); rintro e w6 ⟨rfl, hb⟩; have n0_ := Aside0.mk (below_step (by repeat (first | (with_reducible first | exact HB.out | apply below_alloc | apply pw_below_drewN | apply below_drew1) | exact HB.out)) hb); clear HB; have HB := n0_; clear n0_; (try clear hb); (try clear hb2); (try clear hk); (try clear hi)) | (go_at_call 14; (with_reducible refine (chars_IsToken.calls k (⟨#[120, 45, 121]⟩ : ByteArray) t120 _ A5.out).mono ?_); rintro e w' ⟨rfl, ⟨nd, rfl⟩⟩))
        go_ret
        exact ⟨by first | rfl | (simp [errW_none, errW_some] <;> rfl) | (simp [*, errW_none, errW_some] <;> rfl), by repeat (first | (with_reducible first | exact HB.out | apply below_alloc | apply pw_below_drewN | apply below_drew1) | exact HB.out)⟩
      · rw [if_neg c4] at H
        have c4b0 : (t119.toList == ([45, 49, 50] : List UInt8)) = false := beq_eq_false_iff_ne.mpr c4
        have c4b1 : (t119.toList != ([45, 49, 50] : List UInt8)) = true := bne_iff_ne.mpr c4
        obtain rfl := Option.some.inj H
        go_enter Try.func16, Try.ntmps16
        go_wp2_with (first | ((with_reducible refine gate_callee (f := 20) rfl ?_); refine goesL_ (some 4) rfl rfl Try.func20 (by kernel_rfl) rfl #[.string (⟨#[48, 48, 55]⟩ : ByteArray), .int .i64 10] rfl (by (try simp only [List.map_toArray, List.map_cons, List.map_nil]); first | done | rfl | (simp only [List.length_drop, List.length_take]; rfl)) ?_; (with_reducible refine (chars_Decimal.calls k (⟨#[48, 48, 55]⟩ : ByteArray) 10 t116 none _ A1.out).mono ?_); rintro e w' ⟨rfl, ⟨nd, rfl⟩⟩; refine ⟨_, rfl, ?_⟩; (try simp only [errW_none, errW_some])) | (go_at_call 21; (with_reducible refine (chars_Text.calls (-12) t119 _ A3.out).mono ?_); rintro e w7 ⟨rfl, hb⟩; have n0_ := Aside0.mk (below_step (by repeat (first | (with_reducible first | exact HB.out | apply below_alloc | apply pw_below_drewN | apply below_drew1) | exact HB.out)) hb); clear HB; have HB := n0_; clear n0_; (try clear hb); (try clear hb2); (try clear hk); (try clear hi)))
        go_ret
        exact ⟨by first | rfl | (simp [errW_none, errW_some] <;> rfl) | (simp [*, errW_none, errW_some] <;> rfl), by repeat (first | (with_reducible first | exact HB.out | apply below_alloc | apply pw_below_drewN | apply below_drew1) | exact HB.out)⟩
    · have H1 : (some false) = some r := by rw [if_neg (show ¬ (some q118).isNone = true by simp)] at H; exact H
      clear H
      have H := H1
      clear H1
      try simp only [errW_none, errW_some]
      obtain rfl := Option.some.inj H
      go_enter Try.func16, Try.ntmps16
      go_wp2_with (first | ((with_reducible refine gate_callee (f := 20) rfl ?_); refine goesL_ (some 4) rfl rfl Try.func20 (by kernel_rfl) rfl #[.string (⟨#[48, 48, 55]⟩ : ByteArray), .int .i64 10] rfl (by (try simp only [List.map_toArray, List.map_cons, List.map_nil]); first | done | rfl | (simp only [List.length_drop, List.length_take]; rfl)) ?_; (with_reducible refine (chars_Decimal.calls k (⟨#[48, 48, 55]⟩ : ByteArray) 10 t116 (some q118) _ A1.out).mono ?_); rintro e w' ⟨rfl, ⟨nd, rfl⟩⟩; refine ⟨_, rfl, ?_⟩; (try simp only [errW_none, errW_some])))
      go_ret
      exact ⟨by first | rfl | (simp [errW_none, errW_some] <;> rfl) | (simp [*, errW_none, errW_some] <;> rfl), by repeat (first | (with_reducible first | exact HB.out | apply below_alloc | apply pw_below_drewN | apply below_drew1) | exact HB.out)⟩
  · rw [if_neg c2] at H
    have c2b0 : (t116 == 7) = false := beq_eq_false_iff_ne.mpr c2
    have c2b1 : (t116 != 7) = true := bne_iff_ne.mpr c2
    obtain rfl := Option.some.inj H
    go_enter Try.func16, Try.ntmps16
    go_wp2_with (first | ((with_reducible refine gate_callee (f := 20) rfl ?_); refine goesL_ (some 4) rfl rfl Try.func20 (by kernel_rfl) rfl #[.string (⟨#[48, 48, 55]⟩ : ByteArray), .int .i64 10] rfl (by (try simp only [List.map_toArray, List.map_cons, List.map_nil]); first | done | rfl | (simp only [List.length_drop, List.length_take]; rfl)) ?_; (with_reducible refine (chars_Decimal.calls k (⟨#[48, 48, 55]⟩ : ByteArray) 10 t116 t117 _ A1.out).mono ?_); rintro e w' ⟨rfl, ⟨nd, rfl⟩⟩; refine ⟨_, rfl, ?_⟩; (try simp only [errW_none, errW_some])))
    go_ret
    exact ⟨by first | rfl | (simp [errW_none, errW_some] <;> rfl) | (simp [*, errW_none, errW_some] <;> rfl), by repeat (first | (with_reducible first | exact HB.out | apply below_alloc | apply pw_below_drewN | apply below_drew1) | exact HB.out)⟩

end Go.Proofs.Ythfphoojdhgjoaa.Q
