/- What Go functions that a statement reaches come to, printed by a program of this session over the kit's printer; for all inputs at which the printed Lean function answers. -/
import Derived.Test.YtmmlacbcolfngaaDoorQ0
import Derived.Test.YtmmlacbcolfngaaDoorWLast
import Derived.Test.YtmmlacbcolfngaaDoorQTurnstilelaw09
import Derived.Test.YtmmlacbcolfngaaDoorQTurnstilelaw09stub
import Derived.Test.YtmmlacbcolfngaaDoorQTurnstilelaw09stub2
import Derived.Test.YtmmlacbcolfngaaDoorQHead2
import Derived.Test.YtmmlacbcolfngaaDoorQTurnstileref094
import Derived.Test.YtmmlacbcolfngaaDoorQTurnstilelaw093
namespace Go.Proofs.YtmmlacbcolfngaaDoor.Q
open Go.RowKit Go.Proofs.YtmmlacbcolfngaaDoorW.PrintWords Go.Proofs.YtmmlacbcolfngaaDoorW.PrintLast Go.Proofs.YtmmlacbcolfngaaDoorW.PrintMore
attribute [local go_sem] max2_int min2_int max_two min_two max_three min_three max_four min_four
set_option linter.unusedVariables false
set_option linter.unusedSimpArgs false

/-! ### turnstilelaw09_HeadFields: function 11 -/
def turnstilelaw09_HeadFields.f (k : Nat) (l0 : List (S67)) (a1 : ByteArray) (a2 : ByteArray) : Option (Bool) := if ([] : List (S67)).length + l0.length < 4398046511104 then ((some (([] : List (S67)) ++ l0 : List (S67))).bind fun y322 => ((head_One.f k y322 a1).bind fun bt325 => ((turnstileref09_One.f k l0 a1).bind fun bt327 => ((head_Values.f k y322 a1).bind fun t329 => ((turnstileref09_Values.f k l0 a1).bind fun t332 => ((turnstilelaw09_texts.f k t329 t332).bind fun t335 => (if t335 = true then (if bt325.1.toList = bt327.1.toList then ((turnstilelaw09_num.f bt325.2).bind fun t336 => (if t336 = bt327.2 then ((head_Has.f k y322 a1 a2).bind fun t337 => ((turnstileref09_Has.f k l0 a1 a2).bind fun t338 => (if (t337 == t338) = true then ((turnstilelaw09_fields.f k y322 l0).bind fun t339 => (if t339 = true then ((turnstilelaw09_sure.f).bind fun t340 => (some t340)) else (some false))) else (some false)))) else (some false))) else (some false)) else (some false)))))))) else (none)
theorem turnstilelaw09_HeadFields.mono : ∀ a0 a1 a2 k, LeO (turnstilelaw09_HeadFields.f k a0 a1 a2) (turnstilelaw09_HeadFields.f (k + 1) a0 a1 a2) := by
  intro a0 a1 a2 k
  unfold turnstilelaw09_HeadFields.f
  repeat' first
      | (with_reducible exact head_Has.mono _ _ _ _)
      | (with_reducible exact head_One.mono _ _ _)
      | (with_reducible exact head_Values.mono _ _ _)
      | (with_reducible exact turnstilelaw09_fields.mono _ _ _)
      | (with_reducible exact turnstilelaw09_texts.mono _ _ _)
      | (with_reducible exact turnstileref09_Has.mono _ _ _ _)
      | (with_reducible exact turnstileref09_One.mono _ _ _)
      | (with_reducible exact turnstileref09_Values.mono _ _ _)
      | (with_reducible exact LeO.refl _)
      | (with_reducible exact LeO.none _)
      | (with_reducible refine LeO.ite ?_ ?_)
      | (with_reducible refine LeO.bind ?_ (fun _ => ?_))
      | exact head_Has.mono _ _ _ _
      | exact head_One.mono _ _ _
      | exact head_Values.mono _ _ _
      | exact turnstilelaw09_fields.mono _ _ _
      | exact turnstilelaw09_texts.mono _ _ _
      | exact turnstileref09_Has.mono _ _ _ _
      | exact turnstileref09_One.mono _ _ _
      | exact turnstileref09_Values.mono _ _ _
      | exact LeO.none _
      | refine LeO.ite ?_ ?_
      | refine LeO.bind ?_ (fun _ => ?_)
set_option maxHeartbeats 8000000 in
set_option maxRecDepth 100000 in
theorem turnstilelaw09_HeadFields.calls (k : Nat) (A0 : Option Addr) (c0 : Nat) (l0 : List (S67)) (a1 : ByteArray) (a2 : ByteArray) (w : World) (hr0 : Kd.C k67 w A0 l0.length l0) (hc0 : l0.length ≤ c0) (hGE : GlobE w) (hGM : GlobM w) (h : turnstilelaw09_HeadFields.f k l0 a1 a2 = some true) :
    Calls Tryd.prog 11 #[.slice A0 l0.length c0, .string a1, .string a2] w fun e w' => e = .returned (.bool true) ∧ Below w.heap.size w w' := by
  have HR0 := Aside0.mk hr0
  have HC0 := Aside0.mk hc0
  clear hr0 hc0
  have HB := Aside0.mk (Below.refl w.heap.size w)
  have HGE := Aside0.mk hGE
  clear hGE
  have HGM := Aside0.mk hGM
  clear hGM
  have H : (if ([] : List (S67)).length + l0.length < 4398046511104 then ((some (([] : List (S67)) ++ l0 : List (S67))).bind fun y322 => ((head_One.f k y322 a1).bind fun bt325 => ((turnstileref09_One.f k l0 a1).bind fun bt327 => ((head_Values.f k y322 a1).bind fun t329 => ((turnstileref09_Values.f k l0 a1).bind fun t332 => ((turnstilelaw09_texts.f k t329 t332).bind fun t335 => (if t335 = true then (if bt325.1.toList = bt327.1.toList then ((turnstilelaw09_num.f bt325.2).bind fun t336 => (if t336 = bt327.2 then ((head_Has.f k y322 a1 a2).bind fun t337 => ((turnstileref09_Has.f k l0 a1 a2).bind fun t338 => (if (t337 == t338) = true then ((turnstilelaw09_fields.f k y322 l0).bind fun t339 => (if t339 = true then ((turnstilelaw09_sure.f).bind fun t340 => (some t340)) else (some false))) else (some false)))) else (some false))) else (some false)) else (some false)))))))) else (none)) = some true := h
  clear h
  by_cases c4 : ([] : List (S67)).length + l0.length < 4398046511104
  · rw [if_pos c4] at H
    have LMc4 := Aside0.mk c4
    clear c4
    obtain ⟨y322, hy322⟩ : ∃ y_ : List (S67), y_ = (([] : List (S67)) ++ l0) := ⟨_, rfl⟩
    replace H : ((head_One.f k y322 a1).bind fun bt325 => ((turnstileref09_One.f k l0 a1).bind fun bt327 => ((head_Values.f k y322 a1).bind fun t329 => ((turnstileref09_Values.f k l0 a1).bind fun t332 => ((turnstilelaw09_texts.f k t329 t332).bind fun t335 => (if t335 = true then (if bt325.1.toList = bt327.1.toList then ((turnstilelaw09_num.f bt325.2).bind fun t336 => (if t336 = bt327.2 then ((head_Has.f k y322 a1 a2).bind fun t337 => ((turnstileref09_Has.f k l0 a1 a2).bind fun t338 => (if (t337 == t338) = true then ((turnstilelaw09_fields.f k y322 l0).bind fun t339 => (if t339 = true then ((turnstilelaw09_sure.f).bind fun t340 => (some t340)) else (some false))) else (some false)))) else (some false))) else (some false)) else (some false))))))) = some true := by first | (rw [hy322]; with_reducible exact H) | (have H2_ := (Option.bind_some _ _).symm.trans H; rw [hy322]; with_reducible exact H2_) | (have H2_ := (Option.bind_some _ _).symm.trans H; with_reducible exact H2_) | with_reducible exact H | (rw [hy322]; exact H) | exact H
    have Ny322 := Aside0.mk hy322
    clear hy322
    replace H := Option.bind_eq_some_iff.mp H
    obtain ⟨⟨t325, t326⟩, A50, H⟩ := H
    replace H : ((turnstileref09_One.f k l0 a1).bind fun bt327 => ((head_Values.f k y322 a1).bind fun t329 => ((turnstileref09_Values.f k l0 a1).bind fun t332 => ((turnstilelaw09_texts.f k t329 t332).bind fun t335 => (if t335 = true then (if t325.toList = bt327.1.toList then ((turnstilelaw09_num.f t326).bind fun t336 => (if t336 = bt327.2 then ((head_Has.f k y322 a1 a2).bind fun t337 => ((turnstileref09_Has.f k l0 a1 a2).bind fun t338 => (if (t337 == t338) = true then ((turnstilelaw09_fields.f k y322 l0).bind fun t339 => (if t339 = true then ((turnstilelaw09_sure.f).bind fun t340 => (some t340)) else (some false))) else (some false)))) else (some false))) else (some false)) else (some false)))))) = some true := H
    have A5 := Aside0.mk A50
    clear A50
    replace H := Option.bind_eq_some_iff.mp H
    obtain ⟨⟨t327, t328⟩, A60, H⟩ := H
    replace H : ((head_Values.f k y322 a1).bind fun t329 => ((turnstileref09_Values.f k l0 a1).bind fun t332 => ((turnstilelaw09_texts.f k t329 t332).bind fun t335 => (if t335 = true then (if t325.toList = t327.toList then ((turnstilelaw09_num.f t326).bind fun t336 => (if t336 = t328 then ((head_Has.f k y322 a1 a2).bind fun t337 => ((turnstileref09_Has.f k l0 a1 a2).bind fun t338 => (if (t337 == t338) = true then ((turnstilelaw09_fields.f k y322 l0).bind fun t339 => (if t339 = true then ((turnstilelaw09_sure.f).bind fun t340 => (some t340)) else (some false))) else (some false)))) else (some false))) else (some false)) else (some false))))) = some true := H
    have A6 := Aside0.mk A60
    clear A60
    replace H := Option.bind_eq_some_iff.mp H
    obtain ⟨t329, A70, H⟩ := H
    replace H : ((turnstileref09_Values.f k l0 a1).bind fun t332 => ((turnstilelaw09_texts.f k t329 t332).bind fun t335 => (if t335 = true then (if t325.toList = t327.toList then ((turnstilelaw09_num.f t326).bind fun t336 => (if t336 = t328 then ((head_Has.f k y322 a1 a2).bind fun t337 => ((turnstileref09_Has.f k l0 a1 a2).bind fun t338 => (if (t337 == t338) = true then ((turnstilelaw09_fields.f k y322 l0).bind fun t339 => (if t339 = true then ((turnstilelaw09_sure.f).bind fun t340 => (some t340)) else (some false))) else (some false)))) else (some false))) else (some false)) else (some false)))) = some true := H
    have A7 := Aside0.mk A70
    clear A70
    replace H := Option.bind_eq_some_iff.mp H
    obtain ⟨t332, A80, H⟩ := H
    replace H : ((turnstilelaw09_texts.f k t329 t332).bind fun t335 => (if t335 = true then (if t325.toList = t327.toList then ((turnstilelaw09_num.f t326).bind fun t336 => (if t336 = t328 then ((head_Has.f k y322 a1 a2).bind fun t337 => ((turnstileref09_Has.f k l0 a1 a2).bind fun t338 => (if (t337 == t338) = true then ((turnstilelaw09_fields.f k y322 l0).bind fun t339 => (if t339 = true then ((turnstilelaw09_sure.f).bind fun t340 => (some t340)) else (some false))) else (some false)))) else (some false))) else (some false)) else (some false))) = some true := H
    have A8 := Aside0.mk A80
    clear A80
    replace H := Option.bind_eq_some_iff.mp H
    obtain ⟨t335, A90, H⟩ := H
    replace H : (if t335 = true then (if t325.toList = t327.toList then ((turnstilelaw09_num.f t326).bind fun t336 => (if t336 = t328 then ((head_Has.f k y322 a1 a2).bind fun t337 => ((turnstileref09_Has.f k l0 a1 a2).bind fun t338 => (if (t337 == t338) = true then ((turnstilelaw09_fields.f k y322 l0).bind fun t339 => (if t339 = true then ((turnstilelaw09_sure.f).bind fun t340 => (some t340)) else (some false))) else (some false)))) else (some false))) else (some false)) else (some false)) = some true := H
    have A9 := Aside0.mk A90
    clear A90
    by_cases c10 : t335 = true
    · subst c10
      have H1 : (if t325.toList = t327.toList then ((turnstilelaw09_num.f t326).bind fun t336 => (if t336 = t328 then ((head_Has.f k y322 a1 a2).bind fun t337 => ((turnstileref09_Has.f k l0 a1 a2).bind fun t338 => (if (t337 == t338) = true then ((turnstilelaw09_fields.f k y322 l0).bind fun t339 => (if t339 = true then ((turnstilelaw09_sure.f).bind fun t340 => (some t340)) else (some false))) else (some false)))) else (some false))) else (some false)) = some true := by rw [if_pos rfl] at H; exact H
      clear H
      have H := H1
      clear H1
      by_cases c11 : t325.toList = t327.toList
      · rw [if_pos c11] at H
        have c11b0 : (t325.toList == t327.toList) = true := beq_iff_eq.mpr c11
        have c11b1 : (t325.toList != t327.toList) = false := bne_eq_false_iff_eq.mpr c11
        clear c11
        replace H := Option.bind_eq_some_iff.mp H
        obtain ⟨t336, A120, H⟩ := H
        replace H : (if t336 = t328 then ((head_Has.f k y322 a1 a2).bind fun t337 => ((turnstileref09_Has.f k l0 a1 a2).bind fun t338 => (if (t337 == t338) = true then ((turnstilelaw09_fields.f k y322 l0).bind fun t339 => (if t339 = true then ((turnstilelaw09_sure.f).bind fun t340 => (some t340)) else (some false))) else (some false)))) else (some false)) = some true := H
        have A12 := Aside0.mk A120
        clear A120
        by_cases c13 : t336 = t328
        · rw [if_pos c13] at H
          have c13b0 : (t336 == t328) = true := beq_iff_eq.mpr c13
          have c13b1 : (t336 != t328) = false := bne_eq_false_iff_eq.mpr c13
          clear c13
          replace H := Option.bind_eq_some_iff.mp H
          obtain ⟨t337, A140, H⟩ := H
          replace H : ((turnstileref09_Has.f k l0 a1 a2).bind fun t338 => (if (t337 == t338) = true then ((turnstilelaw09_fields.f k y322 l0).bind fun t339 => (if t339 = true then ((turnstilelaw09_sure.f).bind fun t340 => (some t340)) else (some false))) else (some false))) = some true := H
          have A14 := Aside0.mk A140
          clear A140
          replace H := Option.bind_eq_some_iff.mp H
          obtain ⟨t338, A150, H⟩ := H
          replace H : (if (t337 == t338) = true then ((turnstilelaw09_fields.f k y322 l0).bind fun t339 => (if t339 = true then ((turnstilelaw09_sure.f).bind fun t340 => (some t340)) else (some false))) else (some false)) = some true := H
          have A15 := Aside0.mk A150
          clear A150
          by_cases c16 : (t337 == t338) = true
          · rw [if_pos c16] at H
            have c16b0 : (t337 == t338) = true := c16
            (try (have c16b1 : decide (t337 = t338) = true := by simpa using c16))
            (try (have c16b2 : (t337 == t338) = true := by simpa using c16))
            clear c16
            replace H := Option.bind_eq_some_iff.mp H
            obtain ⟨t339, A170, H⟩ := H
            replace H : (if t339 = true then ((turnstilelaw09_sure.f).bind fun t340 => (some t340)) else (some false)) = some true := H
            have A17 := Aside0.mk A170
            clear A170
            by_cases c18 : t339 = true
            · subst c18
              have H1 : ((turnstilelaw09_sure.f).bind fun t340 => (some t340)) = some true := by rw [if_pos rfl] at H; exact H
              clear H
              have H := H1
              clear H1
              replace H := Option.bind_eq_some_iff.mp H
              obtain ⟨t340, A190, H⟩ := H
              replace H : (some t340) = some true := H
              have A19 := Aside0.mk A190
              clear A190
              have hT := Aside0.mk (Option.some.inj H)
              clear H
              go_enter Tryd.func11, Tryd.ntmps11
              go_wp2_with (first | ((with_reducible refine gate_builtin (b := .append) (xs := #[.tmp 12, .tmp 13]) rfl ?_); at_builtin; refine Kd.R_append_rows k67 (w0 := w) w.heap.size rfl (.tmp 12) (.tmp 13) 22 67 (.agg #[(.string ⟨#[]⟩), (.string ⟨#[]⟩)]) 32 rfl Tryd.underlying22 info67 rfl (by decide) (by omega) (.slice none 0 0) ([] : List (S67)) l0 _ _ _ (fun _ => True) (fun _ => False) rfl rfl ?aO ?aR (fun _ _ h => h) (fun _ h => h.elim) ?aF ?aB ?aS ?aL ?_; (case aR => repeat (first | exact HR0.out | (with_reducible refine Kd.C_alloc ?_ _) | (with_reducible refine Kd.C_drewN ?_ _) | (with_reducible refine Kd.C_drew ?_))); (case aB => exact (by repeat (first | (with_reducible first | exact HB.out | apply below_alloc | apply pw_below_drewN | apply below_drew1) | exact HB.out))); (case aF => exact (fun _ _ => trivial)); (case aO => exact ((Kd.R_nil _ _ _ _ (fun _ => True)))); (case aS => exact (below_size (by repeat (first | (with_reducible first | exact HB.out | apply below_alloc | apply pw_below_drewN | apply below_drew1) | exact HB.out)))); (case aL => have := LMc4.out; omega); intro v323 w20 ho hb hg hat; rw [← Ny322.out] at ho; have n0_ := Aside0.mk (hb); have n1_ := Aside0.mk (ho); clear HB; have HB := n0_; have HO324 := n1_; clear n0_ n1_; clear ho hb hg hat; obtain ⟨Ao21, co21, eo21⟩ := Kd.R_slice HO324.out; subst eo21) | ((with_reducible refine gate_callee (f := 39) rfl ?_); refine goesL_ (some 18) rfl rfl Tryd.func39 (by kernel_rfl) rfl #[.slice Ao21 y322.length co21, .string a1] rfl (by (try simp only [List.map_toArray, List.map_cons, List.map_nil]); first | done | rfl | (simp only [List.length_drop, List.length_take]; rfl)) ?_; (with_reducible refine (head_One.calls k _ _ y322 a1 t325 t326 _ ?side1 ?side2 A5.out).mono ?_); (case side1 => repeat (first | exact (Kd.R_reads' HO324.out).2.2 | (with_reducible refine Kd.C_alloc ?_ _) | (with_reducible refine Kd.C_drewN ?_ _) | (with_reducible refine Kd.C_drew ?_))); (case side2 => exact (Kd.R_reads' HO324.out).2.1); rintro e w22 ⟨rfl, hb⟩; refine ⟨_, rfl, ?_⟩; have n0_ := Aside0.mk (Kd.R_below (by (with_reducible repeat (first | apply Kd.R_alloc | apply Kd.R_drewN | apply Kd.R_drew)); exact HO324.out) hb); have n1_ := Aside0.mk (below_step (by repeat (first | (with_reducible first | exact HB.out | apply below_alloc | apply pw_below_drewN | apply below_drew1) | exact HB.out)) hb); clear HO324; clear HB; have HO324 := n0_; have HB := n1_; clear n0_ n1_; (try clear hb); (try clear hb2); (try clear hk); (try clear hi); (try simp only [errW_none, errW_some])) | ((with_reducible refine gate_callee (f := 40) rfl ?_); refine goesL_ (some 24) rfl rfl Tryd.func40 (by kernel_rfl) rfl #[.slice A0 l0.length c0, .string a1] rfl (by (try simp only [List.map_toArray, List.map_cons, List.map_nil]); first | done | rfl | (simp only [List.length_drop, List.length_take]; rfl)) ?_; (with_reducible refine (turnstileref09_One.calls k _ _ l0 a1 t327 t328 _ ?side1 ?side2 A6.out).mono ?_); (case side1 => repeat (first | exact (Kd.C_below HR0.out HB.out) | (with_reducible refine Kd.C_alloc ?_ _) | (with_reducible refine Kd.C_drewN ?_ _) | (with_reducible refine Kd.C_drew ?_))); (case side2 => exact HC0.out); rintro e w23 ⟨rfl, hb⟩; refine ⟨_, rfl, ?_⟩; have n0_ := Aside0.mk (Kd.R_below (by (with_reducible repeat (first | apply Kd.R_alloc | apply Kd.R_drewN | apply Kd.R_drew)); exact HO324.out) hb); have n1_ := Aside0.mk (below_step (by repeat (first | (with_reducible first | exact HB.out | apply below_alloc | apply pw_below_drewN | apply below_drew1) | exact HB.out)) hb); clear HO324; clear HB; have HO324 := n0_; have HB := n1_; clear n0_ n1_; (try clear hb); (try clear hb2); (try clear hk); (try clear hi)) | ((with_reducible refine gate_callee (f := 42) rfl ?_); refine goesL_ (some 29) rfl rfl Tryd.func42 (by kernel_rfl) rfl #[.slice Ao21 y322.length co21, .string a1] rfl (by (try simp only [List.map_toArray, List.map_cons, List.map_nil]); first | done | rfl | (simp only [List.length_drop, List.length_take]; rfl)) ?_; (with_reducible refine (head_Values.calls k _ _ y322 a1 t329 _ ?side1 ?side2 A7.out).mono ?_); (case side1 => repeat (first | exact (Kd.R_reads' HO324.out).2.2 | (with_reducible refine Kd.C_alloc ?_ _) | (with_reducible refine Kd.C_drewN ?_ _) | (with_reducible refine Kd.C_drew ?_))); (case side2 => exact (Kd.R_reads' HO324.out).2.1); rintro e w24 ⟨v330, rfl, ho0, hb⟩; refine ⟨_, rfl, ?_⟩; have n0_ := Aside0.mk (Kd.R_below (by (with_reducible repeat (first | apply Kd.R_alloc | apply Kd.R_drewN | apply Kd.R_drew)); exact HO324.out) hb); have n1_ := Aside0.mk (Kd.R_lower ho0 (below_size (by repeat (first | (with_reducible first | exact HB.out | apply below_alloc | apply pw_below_drewN | apply below_drew1) | exact HB.out)))); have n2_ := Aside0.mk (below_step (by repeat (first | (with_reducible first | exact HB.out | apply below_alloc | apply pw_below_drewN | apply below_drew1) | exact HB.out)) hb); clear HO324; clear HB; have HO324 := n0_; have HO331 := n1_; have HB := n2_; clear n0_ n1_ n2_; (try clear hb); (try clear hb2); (try clear hk); (try clear hi); (try clear ho0)) | ((with_reducible refine gate_callee (f := 43) rfl ?_); refine goesL_ (some 32) rfl rfl Tryd.func43 (by kernel_rfl) rfl #[.slice A0 l0.length c0, .string a1] rfl (by (try simp only [List.map_toArray, List.map_cons, List.map_nil]); first | done | rfl | (simp only [List.length_drop, List.length_take]; rfl)) ?_; (with_reducible refine (turnstileref09_Values.calls k _ _ l0 a1 t332 _ ?side1 ?side2 A8.out).mono ?_); (case side1 => repeat (first | exact (Kd.C_below HR0.out HB.out) | (with_reducible refine Kd.C_alloc ?_ _) | (with_reducible refine Kd.C_drewN ?_ _) | (with_reducible refine Kd.C_drew ?_))); (case side2 => exact HC0.out); rintro e w25 ⟨v333, rfl, ho0, hb⟩; refine ⟨_, rfl, ?_⟩; have n0_ := Aside0.mk (Kd.R_below (by (with_reducible repeat (first | apply Kd.R_alloc | apply Kd.R_drewN | apply Kd.R_drew)); exact HO324.out) hb); have n1_ := Aside0.mk (Kd.R_elder' (by (with_reducible repeat (first | apply Kd.R_alloc | apply Kd.R_drewN | apply Kd.R_drew)); exact HO331.out) (Kd.R_base ho0) hb); have n2_ := Aside0.mk (Kd.R_lower (Kd.R_new' ho0 (Kd.R_lt (by (with_reducible repeat (first | apply Kd.R_alloc | apply Kd.R_drewN | apply Kd.R_drew)); exact HO331.out))) (below_size (by repeat (first | (with_reducible first | exact HB.out | apply below_alloc | apply pw_below_drewN | apply below_drew1) | exact HB.out)))); have n3_ := Aside0.mk (below_step (by repeat (first | (with_reducible first | exact HB.out | apply below_alloc | apply pw_below_drewN | apply below_drew1) | exact HB.out)) hb); clear HO324; clear HO331; clear HB; have HO324 := n0_; have HO331 := n1_; have HO334 := n2_; have HB := n3_; clear n0_ n1_ n2_ n3_; (try clear hb); (try clear hb2); (try clear hk); (try clear hi); (try clear ho0); obtain ⟨Ao26, co26, eo26⟩ := Kd.R_slice HO331.out; subst eo26; obtain ⟨Ao27, co27, eo27⟩ := Kd.R_slice HO334.out; subst eo27) | ((with_reducible refine gate_callee (f := 41) rfl ?_); refine goesL_ (some 33) rfl rfl Tryd.func41 (by kernel_rfl) rfl #[.slice Ao26 t329.length co26, .slice Ao27 t332.length co27] rfl (by (try simp only [List.map_toArray, List.map_cons, List.map_nil]); first | done | rfl | (simp only [List.length_drop, List.length_take]; rfl)) ?_; (with_reducible refine (turnstilelaw09_texts.calls k _ _ t329 _ _ t332 true _ ?side1 ?side2 ?side3 ?side4 A9.out).mono ?_); (case side1 => repeat (first | exact (Kd.R_reads' HO331.out).2.2 | (with_reducible refine Kd.C_alloc ?_ _) | (with_reducible refine Kd.C_drewN ?_ _) | (with_reducible refine Kd.C_drew ?_))); (case side2 => exact (Kd.R_reads' HO331.out).2.1); (case side3 => repeat (first | exact (Kd.R_reads' HO334.out).2.2 | (with_reducible refine Kd.C_alloc ?_ _) | (with_reducible refine Kd.C_drewN ?_ _) | (with_reducible refine Kd.C_drew ?_))); (case side4 => exact (Kd.R_reads' HO334.out).2.1); rintro e w' ⟨rfl, ⟨nd, rfl⟩⟩; refine ⟨_, rfl, ?_⟩; have CA12 := fun (W : World) (hGE_ : GlobE W) => turnstilelaw09_num.calls t326 t336 W hGE_ A12.out; try simp only [errW_none, errW_some] at CA12) | (go_at_call 23; (with_reducible refine (CA12 _ ?side1).mono ?_); (case side1 => exact GlobE.below HGE.out (by repeat (first | (with_reducible first | exact HB.out | apply below_alloc | apply pw_below_drewN | apply below_drew1) | exact HB.out))); rintro e w28 ⟨rfl, hb⟩; have n0_ := Aside0.mk (Kd.R_below (by (with_reducible repeat (first | apply Kd.R_alloc | apply Kd.R_drewN | apply Kd.R_drew)); exact HO324.out) hb); have n1_ := Aside0.mk (Kd.R_below (by (with_reducible repeat (first | apply Kd.R_alloc | apply Kd.R_drewN | apply Kd.R_drew)); exact HO331.out) hb); have n2_ := Aside0.mk (Kd.R_below (by (with_reducible repeat (first | apply Kd.R_alloc | apply Kd.R_drewN | apply Kd.R_drew)); exact HO334.out) hb); have n3_ := Aside0.mk (below_step (by repeat (first | (with_reducible first | exact HB.out | apply below_alloc | apply pw_below_drewN | apply below_drew1) | exact HB.out)) hb); clear HO324; clear HO331; clear HO334; clear HB; have HO324 := n0_; have HO331 := n1_; have HO334 := n2_; have HB := n3_; clear n0_ n1_ n2_ n3_; (try clear hb); (try clear hb2); (try clear hk); (try clear hi)) | (go_at_call 44; (with_reducible refine (head_Has.calls k _ _ y322 a1 a2 t337 _ ?side1 ?side2 ?side3 A14.out).mono ?_); (case side1 => repeat (first | exact (Kd.R_reads' HO324.out).2.2 | (with_reducible refine Kd.C_alloc ?_ _) | (with_reducible refine Kd.C_drewN ?_ _) | (with_reducible refine Kd.C_drew ?_))); (case side2 => exact (Kd.R_reads' HO324.out).2.1); (case side3 => exact GlobM.below HGM.out (by repeat (first | (with_reducible first | exact HB.out | apply below_alloc | apply pw_below_drewN | apply below_drew1) | exact HB.out))); rintro e w29 ⟨rfl, hb⟩; have n0_ := Aside0.mk (Kd.R_below (by (with_reducible repeat (first | apply Kd.R_alloc | apply Kd.R_drewN | apply Kd.R_drew)); exact HO324.out) hb); have n1_ := Aside0.mk (Kd.R_below (by (with_reducible repeat (first | apply Kd.R_alloc | apply Kd.R_drewN | apply Kd.R_drew)); exact HO331.out) hb); have n2_ := Aside0.mk (Kd.R_below (by (with_reducible repeat (first | apply Kd.R_alloc | apply Kd.R_drewN | apply Kd.R_drew)); exact HO334.out) hb); have n3_ := Aside0.mk (below_step (by repeat (first | (with_reducible first | exact HB.out | apply below_alloc | apply pw_below_drewN | apply below_drew1) | exact HB.out)) hb); clear HO324; clear HO331; clear HO334; clear HB; have HO324 := n0_; have HO331 := n1_; have HO334 := n2_; have HB := n3_; clear n0_ n1_ n2_ n3_; (try clear hb); (try clear hb2); (try clear hk); (try clear hi)) | (go_at_call 45; (with_reducible refine (turnstileref09_Has.calls k _ _ l0 a1 a2 t338 _ ?side1 ?side2 A15.out).mono ?_); (case side1 => repeat (first | exact (Kd.C_below HR0.out HB.out) | (with_reducible refine Kd.C_alloc ?_ _) | (with_reducible refine Kd.C_drewN ?_ _) | (with_reducible refine Kd.C_drew ?_))); (case side2 => exact HC0.out); rintro e w30 ⟨rfl, hb⟩; have n0_ := Aside0.mk (Kd.R_below (by (with_reducible repeat (first | apply Kd.R_alloc | apply Kd.R_drewN | apply Kd.R_drew)); exact HO324.out) hb); have n1_ := Aside0.mk (Kd.R_below (by (with_reducible repeat (first | apply Kd.R_alloc | apply Kd.R_drewN | apply Kd.R_drew)); exact HO331.out) hb); have n2_ := Aside0.mk (Kd.R_below (by (with_reducible repeat (first | apply Kd.R_alloc | apply Kd.R_drewN | apply Kd.R_drew)); exact HO334.out) hb); have n3_ := Aside0.mk (below_step (by repeat (first | (with_reducible first | exact HB.out | apply below_alloc | apply pw_below_drewN | apply below_drew1) | exact HB.out)) hb); clear HO324; clear HO331; clear HO334; clear HB; have HO324 := n0_; have HO331 := n1_; have HO334 := n2_; have HB := n3_; clear n0_ n1_ n2_ n3_; (try clear hb); (try clear hb2); (try clear hk); (try clear hi)) | (go_at_call 46; (with_reducible refine (turnstilelaw09_fields.calls k _ _ y322 _ _ l0 true _ ?side1 ?side2 ?side3 ?side4 A17.out).mono ?_); (case side1 => repeat (first | exact (Kd.R_reads' HO324.out).2.2 | (with_reducible refine Kd.C_alloc ?_ _) | (with_reducible refine Kd.C_drewN ?_ _) | (with_reducible refine Kd.C_drew ?_))); (case side2 => exact (Kd.R_reads' HO324.out).2.1); (case side3 => repeat (first | exact (Kd.C_below HR0.out HB.out) | (with_reducible refine Kd.C_alloc ?_ _) | (with_reducible refine Kd.C_drewN ?_ _) | (with_reducible refine Kd.C_drew ?_))); (case side4 => exact HC0.out); rintro e w' ⟨rfl, ⟨nd, rfl⟩⟩) | (go_at_call 18; (with_reducible refine (turnstilelaw09_sure.calls  t340 _ A19.out).mono ?_); rintro e w31 ⟨rfl, hb⟩; have n0_ := Aside0.mk (Kd.R_below (by (with_reducible repeat (first | apply Kd.R_alloc | apply Kd.R_drewN | apply Kd.R_drew)); exact HO324.out) hb); have n1_ := Aside0.mk (Kd.R_below (by (with_reducible repeat (first | apply Kd.R_alloc | apply Kd.R_drewN | apply Kd.R_drew)); exact HO331.out) hb); have n2_ := Aside0.mk (Kd.R_below (by (with_reducible repeat (first | apply Kd.R_alloc | apply Kd.R_drewN | apply Kd.R_drew)); exact HO334.out) hb); have n3_ := Aside0.mk (below_step (by repeat (first | (with_reducible first | exact HB.out | apply below_alloc | apply pw_below_drewN | apply below_drew1) | exact HB.out)) hb); clear HO324; clear HO331; clear HO334; clear HB; have HO324 := n0_; have HO331 := n1_; have HO334 := n2_; have HB := n3_; clear n0_ n1_ n2_ n3_; (try clear hb); (try clear hb2); (try clear hk); (try clear hi)))
              go_ret
              exact ⟨by first | rfl | (simp [errW_none, errW_some] <;> rfl) | (simp [hT.out, errW_none, errW_some]; done) | (rw [hT.out]; done) | (rw [hT.out]; rfl) | (simp [*, errW_none, errW_some] <;> rfl), by repeat (first | (with_reducible first | exact HB.out | apply below_alloc | apply pw_below_drewN | apply below_drew1) | exact HB.out)⟩
            · replace c18 := Bool.eq_false_iff.mpr c18
              subst c18
              have H1 : (some false) = some true := by rw [if_neg (show ¬ (false = true) by decide)] at H; exact H
              clear H
              have H := H1
              clear H1
              cases H
          · rw [if_neg c16] at H
            have c16b0 : (t337 == t338) = false := by simpa using c16
            (try (have c16b1 : decide (t337 = t338) = false := by simpa using c16))
            (try (have c16b2 : (t337 == t338) = false := by simpa using c16))
            (try (have c16b3 : ¬ (t337 = t338) := by simpa using c16))
            clear c16
            cases H
        · rw [if_neg c13] at H
          have c13b0 : (t336 == t328) = false := beq_eq_false_iff_ne.mpr c13
          have c13b1 : (t336 != t328) = true := bne_iff_ne.mpr c13
          cases H
      · rw [if_neg c11] at H
        have c11b0 : (t325.toList == t327.toList) = false := beq_eq_false_iff_ne.mpr c11
        have c11b1 : (t325.toList != t327.toList) = true := bne_iff_ne.mpr c11
        cases H
    · replace c10 := Bool.eq_false_iff.mpr c10
      subst c10
      have H1 : (some false) = some true := by rw [if_neg (show ¬ (false = true) by decide)] at H; exact H
      clear H
      have H := H1
      clear H1
      cases H
  · rw [if_neg c4] at H
    exact absurd H (by simp)

end Go.Proofs.YtmmlacbcolfngaaDoor.Q
