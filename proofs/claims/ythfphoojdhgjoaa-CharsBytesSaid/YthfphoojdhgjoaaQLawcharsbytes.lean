/- What Go functions that a statement reaches come to, printed by a program of this session over the kit's printer; for all inputs at which the printed Lean function answers. -/
import Derived.Test.YthfphoojdhgjoaaQ0
import Derived.Test.YthfphoojdhgjoaaQChars
import Derived.Test.YthfphoojdhgjoaaQTurnstileref01
import Derived.Test.YthfphoojdhgjoaaQTurnstilelaw01
namespace Go.Proofs.Ythfphoojdhgjoaa.Q
open Go.RowKit Go.Proofs.YthfphoojdhgjoaaW.PrintWords Go.Proofs.YthfphoojdhgjoaaW.PrintLast Go.Proofs.YthfphoojdhgjoaaW.PrintMore
attribute [local go_sem] max2_int min2_int max_two min_two max_three min_three max_four min_four
set_option linter.unusedVariables false
set_option linter.unusedSimpArgs false

/-! ### turnstilelaw01_CharsBytes: function 3 -/
def turnstilelaw01_CharsBytes.f (k : Nat) (a0 : Int) (a1 : ByteArray) : Option (Bool) := (chars_Hex.f k a0).bind fun bt121 => ((turnstileref01_Hex.f k a0).bind fun bt123 => ((chars_Digit.f a0).bind fun t125 => ((turnstileref01_Digit.f a0).bind fun t126 => (if (t125 == t126) = true then ((chars_Token.f a0).bind fun t127 => ((turnstileref01_Token.f k a0).bind fun t128 => (if (t127 == t128) = true then ((chars_Value.f a0).bind fun t129 => ((turnstileref01_Value.f a0).bind fun t130 => (if (t129 == t130) = true then ((chars_Visible.f a0).bind fun t131 => ((turnstileref01_Visible.f a0).bind fun t132 => (if (t131 == t132) = true then (if bt121.1 = bt123.1 then (if (bt121.2 == bt123.2) = true then ((chars_IsToken.f k a1).bind fun t133 => ((turnstileref01_IsToken.f k a1).bind fun t134 => (if (t133 == t134) = true then ((turnstilelaw01_sure.f k).bind fun t135 => (some t135)) else (some false)))) else (some false)) else (some false)) else (some false)))) else (some false)))) else (some false)))) else (some false)))))
theorem turnstilelaw01_CharsBytes.mono : ∀ a0 a1 k, LeO (turnstilelaw01_CharsBytes.f k a0 a1) (turnstilelaw01_CharsBytes.f (k + 1) a0 a1) := by
  intro a0 a1 k
  unfold turnstilelaw01_CharsBytes.f
  repeat' first
      | (with_reducible exact chars_Hex.mono _ _)
      | (with_reducible exact chars_IsToken.mono _ _)
      | (with_reducible exact turnstilelaw01_sure.mono _)
      | (with_reducible exact turnstileref01_Hex.mono _ _)
      | (with_reducible exact turnstileref01_IsToken.mono _ _)
      | (with_reducible exact turnstileref01_Token.mono _ _)
      | (with_reducible exact LeO.refl _)
      | (with_reducible exact LeO.none _)
      | (with_reducible refine LeO.ite ?_ ?_)
      | (with_reducible refine LeO.bind ?_ (fun _ => ?_))
      | exact chars_Hex.mono _ _
      | exact chars_IsToken.mono _ _
      | exact turnstilelaw01_sure.mono _
      | exact turnstileref01_Hex.mono _ _
      | exact turnstileref01_IsToken.mono _ _
      | exact turnstileref01_Token.mono _ _
      | exact LeO.none _
      | refine LeO.ite ?_ ?_
      | refine LeO.bind ?_ (fun _ => ?_)
set_option maxHeartbeats 8000000 in
set_option maxRecDepth 100000 in
theorem turnstilelaw01_CharsBytes.calls (k : Nat) (a0 : Int) (a1 : ByteArray) (r : Bool) (w : World) (h : turnstilelaw01_CharsBytes.f k a0 a1 = some r) :
    Calls Try.prog 3 #[.int .u8 a0, .string a1] w fun e w' => e = .returned (.bool r) ∧ Below w.heap.size w w' := by
  have HB := Aside0.mk (Below.refl w.heap.size w)
  have H : ((chars_Hex.f k a0).bind fun bt121 => ((turnstileref01_Hex.f k a0).bind fun bt123 => ((chars_Digit.f a0).bind fun t125 => ((turnstileref01_Digit.f a0).bind fun t126 => (if (t125 == t126) = true then ((chars_Token.f a0).bind fun t127 => ((turnstileref01_Token.f k a0).bind fun t128 => (if (t127 == t128) = true then ((chars_Value.f a0).bind fun t129 => ((turnstileref01_Value.f a0).bind fun t130 => (if (t129 == t130) = true then ((chars_Visible.f a0).bind fun t131 => ((turnstileref01_Visible.f a0).bind fun t132 => (if (t131 == t132) = true then (if bt121.1 = bt123.1 then (if (bt121.2 == bt123.2) = true then ((chars_IsToken.f k a1).bind fun t133 => ((turnstileref01_IsToken.f k a1).bind fun t134 => (if (t133 == t134) = true then ((turnstilelaw01_sure.f k).bind fun t135 => (some t135)) else (some false)))) else (some false)) else (some false)) else (some false)))) else (some false)))) else (some false)))) else (some false)))))) = some r := h
  clear h
  replace H := Option.bind_eq_some_iff.mp H
  obtain ⟨⟨t121, t122⟩, A30, H⟩ := H
  replace H : ((turnstileref01_Hex.f k a0).bind fun bt123 => ((chars_Digit.f a0).bind fun t125 => ((turnstileref01_Digit.f a0).bind fun t126 => (if (t125 == t126) = true then ((chars_Token.f a0).bind fun t127 => ((turnstileref01_Token.f k a0).bind fun t128 => (if (t127 == t128) = true then ((chars_Value.f a0).bind fun t129 => ((turnstileref01_Value.f a0).bind fun t130 => (if (t129 == t130) = true then ((chars_Visible.f a0).bind fun t131 => ((turnstileref01_Visible.f a0).bind fun t132 => (if (t131 == t132) = true then (if t121 = bt123.1 then (if (t122 == bt123.2) = true then ((chars_IsToken.f k a1).bind fun t133 => ((turnstileref01_IsToken.f k a1).bind fun t134 => (if (t133 == t134) = true then ((turnstilelaw01_sure.f k).bind fun t135 => (some t135)) else (some false)))) else (some false)) else (some false)) else (some false)))) else (some false)))) else (some false)))) else (some false))))) = some r := H
  have A3 := Aside0.mk A30
  clear A30
  replace H := Option.bind_eq_some_iff.mp H
  obtain ⟨⟨t123, t124⟩, A40, H⟩ := H
  replace H : ((chars_Digit.f a0).bind fun t125 => ((turnstileref01_Digit.f a0).bind fun t126 => (if (t125 == t126) = true then ((chars_Token.f a0).bind fun t127 => ((turnstileref01_Token.f k a0).bind fun t128 => (if (t127 == t128) = true then ((chars_Value.f a0).bind fun t129 => ((turnstileref01_Value.f a0).bind fun t130 => (if (t129 == t130) = true then ((chars_Visible.f a0).bind fun t131 => ((turnstileref01_Visible.f a0).bind fun t132 => (if (t131 == t132) = true then (if t121 = t123 then (if (t122 == t124) = true then ((chars_IsToken.f k a1).bind fun t133 => ((turnstileref01_IsToken.f k a1).bind fun t134 => (if (t133 == t134) = true then ((turnstilelaw01_sure.f k).bind fun t135 => (some t135)) else (some false)))) else (some false)) else (some false)) else (some false)))) else (some false)))) else (some false)))) else (some false)))) = some r := H
  have A4 := Aside0.mk A40
  clear A40
  replace H := Option.bind_eq_some_iff.mp H
  obtain ⟨t125, A50, H⟩ := H
  replace H : ((turnstileref01_Digit.f a0).bind fun t126 => (if (t125 == t126) = true then ((chars_Token.f a0).bind fun t127 => ((turnstileref01_Token.f k a0).bind fun t128 => (if (t127 == t128) = true then ((chars_Value.f a0).bind fun t129 => ((turnstileref01_Value.f a0).bind fun t130 => (if (t129 == t130) = true then ((chars_Visible.f a0).bind fun t131 => ((turnstileref01_Visible.f a0).bind fun t132 => (if (t131 == t132) = true then (if t121 = t123 then (if (t122 == t124) = true then ((chars_IsToken.f k a1).bind fun t133 => ((turnstileref01_IsToken.f k a1).bind fun t134 => (if (t133 == t134) = true then ((turnstilelaw01_sure.f k).bind fun t135 => (some t135)) else (some false)))) else (some false)) else (some false)) else (some false)))) else (some false)))) else (some false)))) else (some false))) = some r := H
  have A5 := Aside0.mk A50
  clear A50
  replace H := Option.bind_eq_some_iff.mp H
  obtain ⟨t126, A60, H⟩ := H
  replace H : (if (t125 == t126) = true then ((chars_Token.f a0).bind fun t127 => ((turnstileref01_Token.f k a0).bind fun t128 => (if (t127 == t128) = true then ((chars_Value.f a0).bind fun t129 => ((turnstileref01_Value.f a0).bind fun t130 => (if (t129 == t130) = true then ((chars_Visible.f a0).bind fun t131 => ((turnstileref01_Visible.f a0).bind fun t132 => (if (t131 == t132) = true then (if t121 = t123 then (if (t122 == t124) = true then ((chars_IsToken.f k a1).bind fun t133 => ((turnstileref01_IsToken.f k a1).bind fun t134 => (if (t133 == t134) = true then ((turnstilelaw01_sure.f k).bind fun t135 => (some t135)) else (some false)))) else (some false)) else (some false)) else (some false)))) else (some false)))) else (some false)))) else (some false)) = some r := H
  have A6 := Aside0.mk A60
  clear A60
  by_cases c7 : (t125 == t126) = true
  · rw [if_pos c7] at H
    have c7b0 : (t125 == t126) = true := c7
    (try (have c7b1 : decide (t125 = t126) = true := by simpa using c7))
    (try (have c7b2 : (t125 == t126) = true := by simpa using c7))
    clear c7
    replace H := Option.bind_eq_some_iff.mp H
    obtain ⟨t127, A80, H⟩ := H
    replace H : ((turnstileref01_Token.f k a0).bind fun t128 => (if (t127 == t128) = true then ((chars_Value.f a0).bind fun t129 => ((turnstileref01_Value.f a0).bind fun t130 => (if (t129 == t130) = true then ((chars_Visible.f a0).bind fun t131 => ((turnstileref01_Visible.f a0).bind fun t132 => (if (t131 == t132) = true then (if t121 = t123 then (if (t122 == t124) = true then ((chars_IsToken.f k a1).bind fun t133 => ((turnstileref01_IsToken.f k a1).bind fun t134 => (if (t133 == t134) = true then ((turnstilelaw01_sure.f k).bind fun t135 => (some t135)) else (some false)))) else (some false)) else (some false)) else (some false)))) else (some false)))) else (some false))) = some r := H
    have A8 := Aside0.mk A80
    clear A80
    replace H := Option.bind_eq_some_iff.mp H
    obtain ⟨t128, A90, H⟩ := H
    replace H : (if (t127 == t128) = true then ((chars_Value.f a0).bind fun t129 => ((turnstileref01_Value.f a0).bind fun t130 => (if (t129 == t130) = true then ((chars_Visible.f a0).bind fun t131 => ((turnstileref01_Visible.f a0).bind fun t132 => (if (t131 == t132) = true then (if t121 = t123 then (if (t122 == t124) = true then ((chars_IsToken.f k a1).bind fun t133 => ((turnstileref01_IsToken.f k a1).bind fun t134 => (if (t133 == t134) = true then ((turnstilelaw01_sure.f k).bind fun t135 => (some t135)) else (some false)))) else (some false)) else (some false)) else (some false)))) else (some false)))) else (some false)) = some r := H
    have A9 := Aside0.mk A90
    clear A90
    by_cases c10 : (t127 == t128) = true
    · rw [if_pos c10] at H
      have c10b0 : (t127 == t128) = true := c10
      (try (have c10b1 : decide (t127 = t128) = true := by simpa using c10))
      (try (have c10b2 : (t127 == t128) = true := by simpa using c10))
      clear c10
      replace H := Option.bind_eq_some_iff.mp H
      obtain ⟨t129, A110, H⟩ := H
      replace H : ((turnstileref01_Value.f a0).bind fun t130 => (if (t129 == t130) = true then ((chars_Visible.f a0).bind fun t131 => ((turnstileref01_Visible.f a0).bind fun t132 => (if (t131 == t132) = true then (if t121 = t123 then (if (t122 == t124) = true then ((chars_IsToken.f k a1).bind fun t133 => ((turnstileref01_IsToken.f k a1).bind fun t134 => (if (t133 == t134) = true then ((turnstilelaw01_sure.f k).bind fun t135 => (some t135)) else (some false)))) else (some false)) else (some false)) else (some false)))) else (some false))) = some r := H
      have A11 := Aside0.mk A110
      clear A110
      replace H := Option.bind_eq_some_iff.mp H
      obtain ⟨t130, A120, H⟩ := H
      replace H : (if (t129 == t130) = true then ((chars_Visible.f a0).bind fun t131 => ((turnstileref01_Visible.f a0).bind fun t132 => (if (t131 == t132) = true then (if t121 = t123 then (if (t122 == t124) = true then ((chars_IsToken.f k a1).bind fun t133 => ((turnstileref01_IsToken.f k a1).bind fun t134 => (if (t133 == t134) = true then ((turnstilelaw01_sure.f k).bind fun t135 => (some t135)) else (some false)))) else (some false)) else (some false)) else (some false)))) else (some false)) = some r := H
      have A12 := Aside0.mk A120
      clear A120
      by_cases c13 : (t129 == t130) = true
      · rw [if_pos c13] at H
        have c13b0 : (t129 == t130) = true := c13
        (try (have c13b1 : decide (t129 = t130) = true := by simpa using c13))
        (try (have c13b2 : (t129 == t130) = true := by simpa using c13))
        clear c13
        replace H := Option.bind_eq_some_iff.mp H
        obtain ⟨t131, A140, H⟩ := H
        replace H : ((turnstileref01_Visible.f a0).bind fun t132 => (if (t131 == t132) = true then (if t121 = t123 then (if (t122 == t124) = true then ((chars_IsToken.f k a1).bind fun t133 => ((turnstileref01_IsToken.f k a1).bind fun t134 => (if (t133 == t134) = true then ((turnstilelaw01_sure.f k).bind fun t135 => (some t135)) else (some false)))) else (some false)) else (some false)) else (some false))) = some r := H
        have A14 := Aside0.mk A140
        clear A140
        replace H := Option.bind_eq_some_iff.mp H
        obtain ⟨t132, A150, H⟩ := H
        replace H : (if (t131 == t132) = true then (if t121 = t123 then (if (t122 == t124) = true then ((chars_IsToken.f k a1).bind fun t133 => ((turnstileref01_IsToken.f k a1).bind fun t134 => (if (t133 == t134) = true then ((turnstilelaw01_sure.f k).bind fun t135 => (some t135)) else (some false)))) else (some false)) else (some false)) else (some false)) = some r := H
        have A15 := Aside0.mk A150
        clear A150
        by_cases c16 : (t131 == t132) = true
        · rw [if_pos c16] at H
          have c16b0 : (t131 == t132) = true := c16
          (try (have c16b1 : decide (t131 = t132) = true := by simpa using c16))
          (try (have c16b2 : (t131 == t132) = true := by simpa using c16))
          clear c16
          by_cases c17 : t121 = t123
          · rw [if_pos c17] at H
            have c17b0 : (t121 == t123) = true := beq_iff_eq.mpr c17
            have c17b1 : (t121 != t123) = false := bne_eq_false_iff_eq.mpr c17
            clear c17
            by_cases c18 : (t122 == t124) = true
            · rw [if_pos c18] at H
              have c18b0 : (t122 == t124) = true := c18
              (try (have c18b1 : decide (t122 = t124) = true := by simpa using c18))
              (try (have c18b2 : (t122 == t124) = true := by simpa using c18))
              clear c18
              replace H := Option.bind_eq_some_iff.mp H
              obtain ⟨t133, A190, H⟩ := H
              replace H : ((turnstileref01_IsToken.f k a1).bind fun t134 => (if (t133 == t134) = true then ((turnstilelaw01_sure.f k).bind fun t135 => (some t135)) else (some false))) = some r := H
              have A19 := Aside0.mk A190
              clear A190
              replace H := Option.bind_eq_some_iff.mp H
              obtain ⟨t134, A200, H⟩ := H
              replace H : (if (t133 == t134) = true then ((turnstilelaw01_sure.f k).bind fun t135 => (some t135)) else (some false)) = some r := H
              have A20 := Aside0.mk A200
              clear A200
              by_cases c21 : (t133 == t134) = true
              · rw [if_pos c21] at H
                have c21b0 : (t133 == t134) = true := c21
                (try (have c21b1 : decide (t133 = t134) = true := by simpa using c21))
                (try (have c21b2 : (t133 == t134) = true := by simpa using c21))
                clear c21
                replace H := Option.bind_eq_some_iff.mp H
                obtain ⟨t135, A220, H⟩ := H
                replace H : (some t135) = some r := H
                have A22 := Aside0.mk A220
                clear A220
                obtain rfl := Option.some.inj H
                go_enter Try.func3, Try.ntmps3
                go_wp2_with (first | ((with_reducible refine gate_callee (f := 4) rfl ?_); refine goesL_ (some 11) rfl rfl Try.func4 (by kernel_rfl) rfl #[.int .u8 a0] rfl (by (try simp only [List.map_toArray, List.map_cons, List.map_nil]); first | done | rfl | (simp only [List.length_drop, List.length_take]; rfl)) ?_; (with_reducible refine (chars_Hex.calls k a0 t121 t122 _ A3.out).mono ?_); rintro e w' ⟨rfl, ⟨nd, rfl⟩⟩; refine ⟨_, rfl, ?_⟩) | ((with_reducible refine gate_callee (f := 5) rfl ?_); refine goesL_ (some 16) rfl rfl Try.func5 (by kernel_rfl) rfl #[.int .u8 a0] rfl (by (try simp only [List.map_toArray, List.map_cons, List.map_nil]); first | done | rfl | (simp only [List.length_drop, List.length_take]; rfl)) ?_; (with_reducible refine (turnstileref01_Hex.calls k a0 t123 t124 _ A4.out).mono ?_); rintro e w' ⟨rfl, ⟨nd, rfl⟩⟩; refine ⟨_, rfl, ?_⟩) | ((with_reducible refine gate_callee (f := 6) rfl ?_); refine goesL_ (some 20) rfl rfl Try.func6 (by kernel_rfl) rfl #[.int .u8 a0] rfl (by (try simp only [List.map_toArray, List.map_cons, List.map_nil]); first | done | rfl | (simp only [List.length_drop, List.length_take]; rfl)) ?_; (with_reducible refine (chars_Digit.calls a0 t125 _ A5.out).mono ?_); rintro e w' ⟨rfl, ⟨nd, rfl⟩⟩; refine ⟨_, rfl, ?_⟩) | ((with_reducible refine gate_callee (f := 7) rfl ?_); refine goesL_ (some 22) rfl rfl Try.func7 (by kernel_rfl) rfl #[.int .u8 a0] rfl (by (try simp only [List.map_toArray, List.map_cons, List.map_nil]); first | done | rfl | (simp only [List.length_drop, List.length_take]; rfl)) ?_; (with_reducible refine (turnstileref01_Digit.calls a0 t126 _ A6.out).mono ?_); rintro e w' ⟨rfl, ⟨nd, rfl⟩⟩; refine ⟨_, rfl, ?_⟩) | (go_at_call 8; (with_reducible refine (chars_Token.calls a0 t127 _ A8.out).mono ?_); rintro e w' ⟨rfl, ⟨nd, rfl⟩⟩) | (go_at_call 9; (with_reducible refine (turnstileref01_Token.calls k a0 t128 _ A9.out).mono ?_); rintro e w' ⟨rfl, ⟨nd, rfl⟩⟩) | (go_at_call 10; (with_reducible refine (chars_Value.calls a0 t129 _ A11.out).mono ?_); rintro e w' ⟨rfl, ⟨nd, rfl⟩⟩) | (go_at_call 11; (with_reducible refine (turnstileref01_Value.calls a0 t130 _ A12.out).mono ?_); rintro e w' ⟨rfl, ⟨nd, rfl⟩⟩) | (go_at_call 12; (with_reducible refine (chars_Visible.calls a0 t131 _ A14.out).mono ?_); rintro e w' ⟨rfl, ⟨nd, rfl⟩⟩) | (go_at_call 13; (with_reducible refine (turnstileref01_Visible.calls a0 t132 _ A15.out).mono ?_); rintro e w' ⟨rfl, ⟨nd, rfl⟩⟩) | (go_at_call 14; (with_reducible refine (chars_IsToken.calls k a1 t133 _ A19.out).mono ?_); rintro e w' ⟨rfl, ⟨nd, rfl⟩⟩) | (go_at_call 15; (with_reducible refine (turnstileref01_IsToken.calls k a1 t134 _ A20.out).mono ?_); rintro e w' ⟨rfl, ⟨nd, rfl⟩⟩) | (go_at_call 16; (with_reducible refine (turnstilelaw01_sure.calls k  t135 _ A22.out).mono ?_); rintro e w23 ⟨rfl, hb⟩; have n0_ := Aside0.mk (below_step (by repeat (first | (with_reducible first | exact HB.out | apply below_alloc | apply pw_below_drewN | apply below_drew1) | exact HB.out)) hb); clear HB; have HB := n0_; clear n0_; (try clear hb); (try clear hb2); (try clear hk); (try clear hi)))
                go_ret
                exact ⟨by first | rfl | (simp [errW_none, errW_some] <;> rfl) | (simp [*, errW_none, errW_some] <;> rfl), by repeat (first | (with_reducible first | exact HB.out | apply below_alloc | apply pw_below_drewN | apply below_drew1) | exact HB.out)⟩
              · rw [if_neg c21] at H
                have c21b0 : (t133 == t134) = false := by simpa using c21
                (try (have c21b1 : decide (t133 = t134) = false := by simpa using c21))
                (try (have c21b2 : (t133 == t134) = false := by simpa using c21))
                (try (have c21b3 : ¬ (t133 = t134) := by simpa using c21))
                clear c21
                obtain rfl := Option.some.inj H
                go_enter Try.func3, Try.ntmps3
                go_wp2_with (first | ((with_reducible refine gate_callee (f := 4) rfl ?_); refine goesL_ (some 11) rfl rfl Try.func4 (by kernel_rfl) rfl #[.int .u8 a0] rfl (by (try simp only [List.map_toArray, List.map_cons, List.map_nil]); first | done | rfl | (simp only [List.length_drop, List.length_take]; rfl)) ?_; (with_reducible refine (chars_Hex.calls k a0 t121 t122 _ A3.out).mono ?_); rintro e w' ⟨rfl, ⟨nd, rfl⟩⟩; refine ⟨_, rfl, ?_⟩) | ((with_reducible refine gate_callee (f := 5) rfl ?_); refine goesL_ (some 16) rfl rfl Try.func5 (by kernel_rfl) rfl #[.int .u8 a0] rfl (by (try simp only [List.map_toArray, List.map_cons, List.map_nil]); first | done | rfl | (simp only [List.length_drop, List.length_take]; rfl)) ?_; (with_reducible refine (turnstileref01_Hex.calls k a0 t123 t124 _ A4.out).mono ?_); rintro e w' ⟨rfl, ⟨nd, rfl⟩⟩; refine ⟨_, rfl, ?_⟩) | ((with_reducible refine gate_callee (f := 6) rfl ?_); refine goesL_ (some 20) rfl rfl Try.func6 (by kernel_rfl) rfl #[.int .u8 a0] rfl (by (try simp only [List.map_toArray, List.map_cons, List.map_nil]); first | done | rfl | (simp only [List.length_drop, List.length_take]; rfl)) ?_; (with_reducible refine (chars_Digit.calls a0 t125 _ A5.out).mono ?_); rintro e w' ⟨rfl, ⟨nd, rfl⟩⟩; refine ⟨_, rfl, ?_⟩) | ((with_reducible refine gate_callee (f := 7) rfl ?_); refine goesL_ (some 22) rfl rfl Try.func7 (by kernel_rfl) rfl #[.int .u8 a0] rfl (by (try simp only [List.map_toArray, List.map_cons, List.map_nil]); first | done | rfl | (simp only [List.length_drop, List.length_take]; rfl)) ?_; (with_reducible refine (turnstileref01_Digit.calls a0 t126 _ A6.out).mono ?_); rintro e w' ⟨rfl, ⟨nd, rfl⟩⟩; refine ⟨_, rfl, ?_⟩) | (go_at_call 8; (with_reducible refine (chars_Token.calls a0 t127 _ A8.out).mono ?_); rintro e w' ⟨rfl, ⟨nd, rfl⟩⟩) | (go_at_call 9; (with_reducible refine (turnstileref01_Token.calls k a0 t128 _ A9.out).mono ?_); rintro e w' ⟨rfl, ⟨nd, rfl⟩⟩) | (go_at_call 10; (with_reducible refine (chars_Value.calls a0 t129 _ A11.out).mono ?_); rintro e w' ⟨rfl, ⟨nd, rfl⟩⟩) | (go_at_call 11; (with_reducible refine (turnstileref01_Value.calls a0 t130 _ A12.out).mono ?_); rintro e w' ⟨rfl, ⟨nd, rfl⟩⟩) | (go_at_call 12; (with_reducible refine (chars_Visible.calls a0 t131 _ A14.out).mono ?_); rintro e w' ⟨rfl, ⟨nd, rfl⟩⟩) | (go_at_call 13; (with_reducible refine (turnstileref01_Visible.calls a0 t132 _ A15.out).mono ?_); rintro e w' ⟨rfl, ⟨nd, rfl⟩⟩) | (go_at_call 14; (with_reducible refine (chars_IsToken.calls k a1 t133 _ A19.out).mono ?_); rintro e w' ⟨rfl, ⟨nd, rfl⟩⟩) | (go_at_call 15; (with_reducible refine (turnstileref01_IsToken.calls k a1 t134 _ A20.out).mono ?_); rintro e w' ⟨rfl, ⟨nd, rfl⟩⟩))
                go_ret
                exact ⟨by first | rfl | (simp [errW_none, errW_some] <;> rfl) | (simp [*, errW_none, errW_some] <;> rfl), by repeat (first | (with_reducible first | exact HB.out | apply below_alloc | apply pw_below_drewN | apply below_drew1) | exact HB.out)⟩
            · rw [if_neg c18] at H
              have c18b0 : (t122 == t124) = false := by simpa using c18
              (try (have c18b1 : decide (t122 = t124) = false := by simpa using c18))
              (try (have c18b2 : (t122 == t124) = false := by simpa using c18))
              (try (have c18b3 : ¬ (t122 = t124) := by simpa using c18))
              clear c18
              obtain rfl := Option.some.inj H
              go_enter Try.func3, Try.ntmps3
              go_wp2_with (first | ((with_reducible refine gate_callee (f := 4) rfl ?_); refine goesL_ (some 11) rfl rfl Try.func4 (by kernel_rfl) rfl #[.int .u8 a0] rfl (by (try simp only [List.map_toArray, List.map_cons, List.map_nil]); first | done | rfl | (simp only [List.length_drop, List.length_take]; rfl)) ?_; (with_reducible refine (chars_Hex.calls k a0 t121 t122 _ A3.out).mono ?_); rintro e w' ⟨rfl, ⟨nd, rfl⟩⟩; refine ⟨_, rfl, ?_⟩) | ((with_reducible refine gate_callee (f := 5) rfl ?_); refine goesL_ (some 16) rfl rfl Try.func5 (by kernel_rfl) rfl #[.int .u8 a0] rfl (by (try simp only [List.map_toArray, List.map_cons, List.map_nil]); first | done | rfl | (simp only [List.length_drop, List.length_take]; rfl)) ?_; (with_reducible refine (turnstileref01_Hex.calls k a0 t123 t124 _ A4.out).mono ?_); rintro e w' ⟨rfl, ⟨nd, rfl⟩⟩; refine ⟨_, rfl, ?_⟩) | ((with_reducible refine gate_callee (f := 6) rfl ?_); refine goesL_ (some 20) rfl rfl Try.func6 (by kernel_rfl) rfl #[.int .u8 a0] rfl (by (try simp only [List.map_toArray, List.map_cons, List.map_nil]); first | done | rfl | (simp only [List.length_drop, List.length_take]; rfl)) ?_; (with_reducible refine (chars_Digit.calls a0 t125 _ A5.out).mono ?_); rintro e w' ⟨rfl, ⟨nd, rfl⟩⟩; refine ⟨_, rfl, ?_⟩) | ((with_reducible refine gate_callee (f := 7) rfl ?_); refine goesL_ (some 22) rfl rfl Try.func7 (by kernel_rfl) rfl #[.int .u8 a0] rfl (by (try simp only [List.map_toArray, List.map_cons, List.map_nil]); first | done | rfl | (simp only [List.length_drop, List.length_take]; rfl)) ?_; (with_reducible refine (turnstileref01_Digit.calls a0 t126 _ A6.out).mono ?_); rintro e w' ⟨rfl, ⟨nd, rfl⟩⟩; refine ⟨_, rfl, ?_⟩) | (go_at_call 8; (with_reducible refine (chars_Token.calls a0 t127 _ A8.out).mono ?_); rintro e w' ⟨rfl, ⟨nd, rfl⟩⟩) | (go_at_call 9; (with_reducible refine (turnstileref01_Token.calls k a0 t128 _ A9.out).mono ?_); rintro e w' ⟨rfl, ⟨nd, rfl⟩⟩) | (go_at_call 10; (with_reducible refine (chars_Value.calls a0 t129 _ A11.out).mono ?_); rintro e w' ⟨rfl, ⟨nd, rfl⟩⟩) | (go_at_call 11; (with_reducible refine (turnstileref01_Value.calls a0 t130 _ A12.out).mono ?_); rintro e w' ⟨rfl, ⟨nd, rfl⟩⟩) | (go_at_call 12; (with_reducible refine (chars_Visible.calls a0 t131 _ A14.out).mono ?_); rintro e w' ⟨rfl, ⟨nd, rfl⟩⟩) | (go_at_call 13; (with_reducible refine (turnstileref01_Visible.calls a0 t132 _ A15.out).mono ?_); rintro e w' ⟨rfl, ⟨nd, rfl⟩⟩))
              go_ret
              exact ⟨by first | rfl | (simp [errW_none, errW_some] <;> rfl) | (simp [*, errW_none, errW_some] <;> rfl), by repeat (first | (with_reducible first | exact HB.out | apply below_alloc | apply pw_below_drewN | apply below_drew1) | exact HB.out)⟩
          · rw [if_neg c17] at H
            have c17b0 : (t121 == t123) = false := beq_eq_false_iff_ne.mpr c17
            have c17b1 : (t121 != t123) = true := bne_iff_ne.mpr c17
            obtain rfl := Option.some.inj H
            go_enter Try.func3, Try.ntmps3
            go_wp2_with (first | ((with_reducible refine gate_callee (f := 4) rfl ?_); refine goesL_ (some 11) rfl rfl Try.func4 (by kernel_rfl) rfl #[.int .u8 a0] rfl (by (try simp only [List.map_toArray, List.map_cons, List.map_nil]); first | done | rfl | (simp only [List.length_drop, List.length_take]; rfl)) ?_; (with_reducible refine (chars_Hex.calls k a0 t121 t122 _ A3.out).mono ?_); rintro e w' ⟨rfl, ⟨nd, rfl⟩⟩; refine ⟨_, rfl, ?_⟩) | ((with_reducible refine gate_callee (f := 5) rfl ?_); refine goesL_ (some 16) rfl rfl Try.func5 (by kernel_rfl) rfl #[.int .u8 a0] rfl (by (try simp only [List.map_toArray, List.map_cons, List.map_nil]); first | done | rfl | (simp only [List.length_drop, List.length_take]; rfl)) ?_; (with_reducible refine (turnstileref01_Hex.calls k a0 t123 t124 _ A4.out).mono ?_); rintro e w' ⟨rfl, ⟨nd, rfl⟩⟩; refine ⟨_, rfl, ?_⟩) | ((with_reducible refine gate_callee (f := 6) rfl ?_); refine goesL_ (some 20) rfl rfl Try.func6 (by kernel_rfl) rfl #[.int .u8 a0] rfl (by (try simp only [List.map_toArray, List.map_cons, List.map_nil]); first | done | rfl | (simp only [List.length_drop, List.length_take]; rfl)) ?_; (with_reducible refine (chars_Digit.calls a0 t125 _ A5.out).mono ?_); rintro e w' ⟨rfl, ⟨nd, rfl⟩⟩; refine ⟨_, rfl, ?_⟩) | ((with_reducible refine gate_callee (f := 7) rfl ?_); refine goesL_ (some 22) rfl rfl Try.func7 (by kernel_rfl) rfl #[.int .u8 a0] rfl (by (try simp only [List.map_toArray, List.map_cons, List.map_nil]); first | done | rfl | (simp only [List.length_drop, List.length_take]; rfl)) ?_; (with_reducible refine (turnstileref01_Digit.calls a0 t126 _ A6.out).mono ?_); rintro e w' ⟨rfl, ⟨nd, rfl⟩⟩; refine ⟨_, rfl, ?_⟩) | (go_at_call 8; (with_reducible refine (chars_Token.calls a0 t127 _ A8.out).mono ?_); rintro e w' ⟨rfl, ⟨nd, rfl⟩⟩) | (go_at_call 9; (with_reducible refine (turnstileref01_Token.calls k a0 t128 _ A9.out).mono ?_); rintro e w' ⟨rfl, ⟨nd, rfl⟩⟩) | (go_at_call 10; (with_reducible refine (chars_Value.calls a0 t129 _ A11.out).mono ?_); rintro e w' ⟨rfl, ⟨nd, rfl⟩⟩) | (go_at_call 11; (with_reducible refine (turnstileref01_Value.calls a0 t130 _ A12.out).mono ?_); rintro e w' ⟨rfl, ⟨nd, rfl⟩⟩) | (go_at_call 12; (with_reducible refine (chars_Visible.calls a0 t131 _ A14.out).mono ?_); rintro e w' ⟨rfl, ⟨nd, rfl⟩⟩) | (go_at_call 13; (with_reducible refine (turnstileref01_Visible.calls a0 t132 _ A15.out).mono ?_); rintro e w' ⟨rfl, ⟨nd, rfl⟩⟩))
            go_ret
            exact ⟨by first | rfl | (simp [errW_none, errW_some] <;> rfl) | (simp [*, errW_none, errW_some] <;> rfl), by repeat (first | (with_reducible first | exact HB.out | apply below_alloc | apply pw_below_drewN | apply below_drew1) | exact HB.out)⟩
        · rw [if_neg c16] at H
          have c16b0 : (t131 == t132) = false := by simpa using c16
          (try (have c16b1 : decide (t131 = t132) = false := by simpa using c16))
          (try (have c16b2 : (t131 == t132) = false := by simpa using c16))
          (try (have c16b3 : ¬ (t131 = t132) := by simpa using c16))
          clear c16
          obtain rfl := Option.some.inj H
          go_enter Try.func3, Try.ntmps3
          go_wp2_with (first | ((with_reducible refine gate_callee (f := 4) rfl ?_); refine goesL_ (some 11) rfl rfl Try.func4 (by kernel_rfl) rfl #[.int .u8 a0] rfl (by (try simp only [List.map_toArray, List.map_cons, List.map_nil]); first | done | rfl | (simp only [List.length_drop, List.length_take]; rfl)) ?_; (with_reducible refine (chars_Hex.calls k a0 t121 t122 _ A3.out).mono ?_); rintro e w' ⟨rfl, ⟨nd, rfl⟩⟩; refine ⟨_, rfl, ?_⟩) | ((with_reducible refine gate_callee (f := 5) rfl ?_); refine goesL_ (some 16) rfl rfl Try.func5 (by kernel_rfl) rfl #[.int .u8 a0] rfl (by (try simp only [List.map_toArray, List.map_cons, List.map_nil]); first | done | rfl | (simp only [List.length_drop, List.length_take]; rfl)) ?_; (with_reducible refine (turnstileref01_Hex.calls k a0 t123 t124 _ A4.out).mono ?_); rintro e w' ⟨rfl, ⟨nd, rfl⟩⟩; refine ⟨_, rfl, ?_⟩) | ((with_reducible refine gate_callee (f := 6) rfl ?_); refine goesL_ (some 20) rfl rfl Try.func6 (by kernel_rfl) rfl #[.int .u8 a0] rfl (by (try simp only [List.map_toArray, List.map_cons, List.map_nil]); first | done | rfl | (simp only [List.length_drop, List.length_take]; rfl)) ?_; (with_reducible refine (chars_Digit.calls a0 t125 _ A5.out).mono ?_); rintro e w' ⟨rfl, ⟨nd, rfl⟩⟩; refine ⟨_, rfl, ?_⟩) | ((with_reducible refine gate_callee (f := 7) rfl ?_); refine goesL_ (some 22) rfl rfl Try.func7 (by kernel_rfl) rfl #[.int .u8 a0] rfl (by (try simp only [List.map_toArray, List.map_cons, List.map_nil]); first | done | rfl | (simp only [List.length_drop, List.length_take]; rfl)) ?_; (with_reducible refine (turnstileref01_Digit.calls a0 t126 _ A6.out).mono ?_); rintro e w' ⟨rfl, ⟨nd, rfl⟩⟩; refine ⟨_, rfl, ?_⟩) | (go_at_call 8; (with_reducible refine (chars_Token.calls a0 t127 _ A8.out).mono ?_); rintro e w' ⟨rfl, ⟨nd, rfl⟩⟩) | (go_at_call 9; (with_reducible refine (turnstileref01_Token.calls k a0 t128 _ A9.out).mono ?_); rintro e w' ⟨rfl, ⟨nd, rfl⟩⟩) | (go_at_call 10; (with_reducible refine (chars_Value.calls a0 t129 _ A11.out).mono ?_); rintro e w' ⟨rfl, ⟨nd, rfl⟩⟩) | (go_at_call 11; (with_reducible refine (turnstileref01_Value.calls a0 t130 _ A12.out).mono ?_); rintro e w' ⟨rfl, ⟨nd, rfl⟩⟩) | (go_at_call 12; (with_reducible refine (chars_Visible.calls a0 t131 _ A14.out).mono ?_); rintro e w' ⟨rfl, ⟨nd, rfl⟩⟩) | (go_at_call 13; (with_reducible refine (turnstileref01_Visible.calls a0 t132 _ A15.out).mono ?_); rintro e w' ⟨rfl, ⟨nd, rfl⟩⟩))
          go_ret
          exact ⟨by first | rfl | (simp [errW_none, errW_some] <;> rfl) | (simp [*, errW_none, errW_some] <;> rfl), by repeat (first | (with_reducible first | exact HB.out | apply below_alloc | apply pw_below_drewN | apply below_drew1) | exact HB.out)⟩
      · rw [if_neg c13] at H
        have c13b0 : (t129 == t130) = false := by simpa using c13
        (try (have c13b1 : decide (t129 = t130) = false := by simpa using c13))
        (try (have c13b2 : (t129 == t130) = false := by simpa using c13))
        (try (have c13b3 : ¬ (t129 = t130) := by simpa using c13))
        clear c13
        obtain rfl := Option.some.inj H
        go_enter Try.func3, Try.ntmps3
        go_wp2_with (first | ((with_reducible refine gate_callee (f := 4) rfl ?_); refine goesL_ (some 11) rfl rfl Try.func4 (by kernel_rfl) rfl #[.int .u8 a0] rfl (by (try simp only [List.map_toArray, List.map_cons, List.map_nil]); first | done | rfl | (simp only [List.length_drop, List.length_take]; rfl)) ?_; (with_reducible refine (chars_Hex.calls k a0 t121 t122 _ A3.out).mono ?_); rintro e w' ⟨rfl, ⟨nd, rfl⟩⟩; refine ⟨_, rfl, ?_⟩) | ((with_reducible refine gate_callee (f := 5) rfl ?_); refine goesL_ (some 16) rfl rfl Try.func5 (by kernel_rfl) rfl #[.int .u8 a0] rfl (by (try simp only [List.map_toArray, List.map_cons, List.map_nil]); first | done | rfl | (simp only [List.length_drop, List.length_take]; rfl)) ?_; (with_reducible refine (turnstileref01_Hex.calls k a0 t123 t124 _ A4.out).mono ?_); rintro e w' ⟨rfl, ⟨nd, rfl⟩⟩; refine ⟨_, rfl, ?_⟩) | ((with_reducible refine gate_callee (f := 6) rfl ?_); refine goesL_ (some 20) rfl rfl Try.func6 (by kernel_rfl) rfl #[.int .u8 a0] rfl (by (try simp only [List.map_toArray, List.map_cons, List.map_nil]); first | done | rfl | (simp only [List.length_drop, List.length_take]; rfl)) ?_; (with_reducible refine (chars_Digit.calls a0 t125 _ A5.out).mono ?_); rintro e w' ⟨rfl, ⟨nd, rfl⟩⟩; refine ⟨_, rfl, ?_⟩) | ((with_reducible refine gate_callee (f := 7) rfl ?_); refine goesL_ (some 22) rfl rfl Try.func7 (by kernel_rfl) rfl #[.int .u8 a0] rfl (by (try simp only [List.map_toArray, List.map_cons, List.map_nil]); first | done | rfl | (simp only [List.length_drop, List.length_take]; rfl)) ?_; (with_reducible refine (turnstileref01_Digit.calls a0 t126 _ A6.out).mono ?_); rintro e w' ⟨rfl, ⟨nd, rfl⟩⟩; refine ⟨_, rfl, ?_⟩) | (go_at_call 8; (with_reducible refine (chars_Token.calls a0 t127 _ A8.out).mono ?_); rintro e w' ⟨rfl, ⟨nd, rfl⟩⟩) | (go_at_call 9; (with_reducible refine (turnstileref01_Token.calls k a0 t128 _ A9.out).mono ?_); rintro e w' ⟨rfl, ⟨nd, rfl⟩⟩) | (go_at_call 10; (with_reducible refine (chars_Value.calls a0 t129 _ A11.out).mono ?_); rintro e w' ⟨rfl, ⟨nd, rfl⟩⟩) | (go_at_call 11; (with_reducible refine (turnstileref01_Value.calls a0 t130 _ A12.out).mono ?_); rintro e w' ⟨rfl, ⟨nd, rfl⟩⟩))
        go_ret
        exact ⟨by first | rfl | (simp [errW_none, errW_some] <;> rfl) | (simp [*, errW_none, errW_some] <;> rfl), by repeat (first | (with_reducible first | exact HB.out | apply below_alloc | apply pw_below_drewN | apply below_drew1) | exact HB.out)⟩
    · rw [if_neg c10] at H
      have c10b0 : (t127 == t128) = false := by simpa using c10
      (try (have c10b1 : decide (t127 = t128) = false := by simpa using c10))
      (try (have c10b2 : (t127 == t128) = false := by simpa using c10))
      (try (have c10b3 : ¬ (t127 = t128) := by simpa using c10))
      clear c10
      obtain rfl := Option.some.inj H
      go_enter Try.func3, Try.ntmps3
      go_wp2_with (first | ((with_reducible refine gate_callee (f := 4) rfl ?_); refine goesL_ (some 11) rfl rfl Try.func4 (by kernel_rfl) rfl #[.int .u8 a0] rfl (by (try simp only [List.map_toArray, List.map_cons, List.map_nil]); first | done | rfl | (simp only [List.length_drop, List.length_take]; rfl)) ?_; (with_reducible refine (chars_Hex.calls k a0 t121 t122 _ A3.out).mono ?_); rintro e w' ⟨rfl, ⟨nd, rfl⟩⟩; refine ⟨_, rfl, ?_⟩) | ((with_reducible refine gate_callee (f := 5) rfl ?_); refine goesL_ (some 16) rfl rfl Try.func5 (by kernel_rfl) rfl #[.int .u8 a0] rfl (by (try simp only [List.map_toArray, List.map_cons, List.map_nil]); first | done | rfl | (simp only [List.length_drop, List.length_take]; rfl)) ?_; (with_reducible refine (turnstileref01_Hex.calls k a0 t123 t124 _ A4.out).mono ?_); rintro e w' ⟨rfl, ⟨nd, rfl⟩⟩; refine ⟨_, rfl, ?_⟩) | ((with_reducible refine gate_callee (f := 6) rfl ?_); refine goesL_ (some 20) rfl rfl Try.func6 (by kernel_rfl) rfl #[.int .u8 a0] rfl (by (try simp only [List.map_toArray, List.map_cons, List.map_nil]); first | done | rfl | (simp only [List.length_drop, List.length_take]; rfl)) ?_; (with_reducible refine (chars_Digit.calls a0 t125 _ A5.out).mono ?_); rintro e w' ⟨rfl, ⟨nd, rfl⟩⟩; refine ⟨_, rfl, ?_⟩) | ((with_reducible refine gate_callee (f := 7) rfl ?_); refine goesL_ (some 22) rfl rfl Try.func7 (by kernel_rfl) rfl #[.int .u8 a0] rfl (by (try simp only [List.map_toArray, List.map_cons, List.map_nil]); first | done | rfl | (simp only [List.length_drop, List.length_take]; rfl)) ?_; (with_reducible refine (turnstileref01_Digit.calls a0 t126 _ A6.out).mono ?_); rintro e w' ⟨rfl, ⟨nd, rfl⟩⟩; refine ⟨_, rfl, ?_⟩) | (go_at_call 8; (with_reducible refine (chars_Token.calls a0 t127 _ A8.out).mono ?_); rintro e w' ⟨rfl, ⟨nd, rfl⟩⟩) | (go_at_call 9; (with_reducible refine (turnstileref01_Token.calls k a0 t128 _ A9.out).mono ?_); rintro e w' ⟨rfl, ⟨nd, rfl⟩⟩))
      go_ret
      exact ⟨by first | rfl | (simp [errW_none, errW_some] <;> rfl) | (simp [*, errW_none, errW_some] <;> rfl), by repeat (first | (with_reducible first | exact HB.out | apply below_alloc | apply pw_below_drewN | apply below_drew1) | exact HB.out)⟩
  · rw [if_neg c7] at H
    have c7b0 : (t125 == t126) = false := by simpa using c7
    (try (have c7b1 : decide (t125 = t126) = false := by simpa using c7))
    (try (have c7b2 : (t125 == t126) = false := by simpa using c7))
    (try (have c7b3 : ¬ (t125 = t126) := by simpa using c7))
    clear c7
    obtain rfl := Option.some.inj H
    go_enter Try.func3, Try.ntmps3
    go_wp2_with (first | ((with_reducible refine gate_callee (f := 4) rfl ?_); refine goesL_ (some 11) rfl rfl Try.func4 (by kernel_rfl) rfl #[.int .u8 a0] rfl (by (try simp only [List.map_toArray, List.map_cons, List.map_nil]); first | done | rfl | (simp only [List.length_drop, List.length_take]; rfl)) ?_; (with_reducible refine (chars_Hex.calls k a0 t121 t122 _ A3.out).mono ?_); rintro e w' ⟨rfl, ⟨nd, rfl⟩⟩; refine ⟨_, rfl, ?_⟩) | ((with_reducible refine gate_callee (f := 5) rfl ?_); refine goesL_ (some 16) rfl rfl Try.func5 (by kernel_rfl) rfl #[.int .u8 a0] rfl (by (try simp only [List.map_toArray, List.map_cons, List.map_nil]); first | done | rfl | (simp only [List.length_drop, List.length_take]; rfl)) ?_; (with_reducible refine (turnstileref01_Hex.calls k a0 t123 t124 _ A4.out).mono ?_); rintro e w' ⟨rfl, ⟨nd, rfl⟩⟩; refine ⟨_, rfl, ?_⟩) | ((with_reducible refine gate_callee (f := 6) rfl ?_); refine goesL_ (some 20) rfl rfl Try.func6 (by kernel_rfl) rfl #[.int .u8 a0] rfl (by (try simp only [List.map_toArray, List.map_cons, List.map_nil]); first | done | rfl | (simp only [List.length_drop, List.length_take]; rfl)) ?_; (with_reducible refine (chars_Digit.calls a0 t125 _ A5.out).mono ?_); rintro e w' ⟨rfl, ⟨nd, rfl⟩⟩; refine ⟨_, rfl, ?_⟩) | ((with_reducible refine gate_callee (f := 7) rfl ?_); refine goesL_ (some 22) rfl rfl Try.func7 (by kernel_rfl) rfl #[.int .u8 a0] rfl (by (try simp only [List.map_toArray, List.map_cons, List.map_nil]); first | done | rfl | (simp only [List.length_drop, List.length_take]; rfl)) ?_; (with_reducible refine (turnstileref01_Digit.calls a0 t126 _ A6.out).mono ?_); rintro e w' ⟨rfl, ⟨nd, rfl⟩⟩; refine ⟨_, rfl, ?_⟩))
    go_ret
    exact ⟨by first | rfl | (simp [errW_none, errW_some] <;> rfl) | (simp [*, errW_none, errW_some] <;> rfl), by repeat (first | (with_reducible first | exact HB.out | apply below_alloc | apply pw_below_drewN | apply below_drew1) | exact HB.out)⟩

end Go.Proofs.Ythfphoojdhgjoaa.Q
