/- The law HeadBare, walked where it answers true. By hand. -/
import Derived.Test.YtmmlacbcolfngaaDoorQTurnstileref092
import Derived.Test.YtmmlacbcolfngaaDoorQHeadstub
import Derived.Test.YtmmlacbcolfngaaDoorQTurnstilelaw09stub
import Derived.Test.YtmmlacbcolfngaaDoorQTurnstilelaw09stub2
import Derived.StillTactics
import Derived.Deep.RegionLaw
import Derived.Test.YtmmlacbcolfngaaDoorWLast
import Derived.Test.YtmmlacbcolfngaaDoorWGuard
namespace Go.Proofs.YtmmlacbcolfngaaDoor.Q
open Go.RowKit Go.Proofs.YtmmlacbcolfngaaDoorW.PrintWords Go.Proofs.YtmmlacbcolfngaaDoorW.PrintLast Go.Proofs.YtmmlacbcolfngaaDoorW.PrintMore
attribute [local go_sem] max2_int min2_int max_two min_two max_three min_three max_four min_four
set_option linter.unusedVariables false
set_option linter.unusedSimpArgs false
set_option maxRecDepth 8000
def nearB (b : List Int) (lo hi : Nat) : Bool := ((b.take hi).drop lo).any fun x => x == 13 || x == 10
theorem near_nil (b : List Int) (lo : Nat) : nearB b lo lo = false := by
  unfold nearB
  rw [List.drop_of_length_le (by rw [List.length_take]; omega)]
  rfl
theorem near_far (b : List Int) (lo hi : Nat) (h : hi ≤ lo) : nearB b lo hi = false := by
  unfold nearB
  rw [List.drop_of_length_le (by rw [List.length_take]; omega)]
  rfl
theorem near_step (b : List Int) (lo j : Nat) (h : lo ≤ j) (hj : j < b.length) : nearB b lo (j + 1) = (nearB b lo j || (rd b (j : Int) == 13 || rd b (j : Int) == 10)) := by
  unfold nearB
  have e : b.take (j + 1) = b.take j ++ [rd b (j : Int)] := by
    unfold rd
    rw [Int.toNat_natCast, List.getD_eq_getElem?_getD, List.getElem?_eq_getElem hj, Option.getD_some]
    exact (List.take_append_getElem hj).symm
  rw [e, List.drop_append_of_le_length (by rw [List.length_take]; omega), List.any_append]
  simp
def bareAt (b : List Int) (at_ : Int) : Nat := ((IntKind.u64.wrap at_) % (b.length : Int)).toNat
def bareC (feed : Bool) : Int := if feed = true then 10 else 13
def bareX (b : List Int) (i : Nat) (feed : Bool) : List Int := b.take i ++ [bareC feed] ++ b.drop i
def bareE (o : Option (ByteArray × ByteArray × Int × (List S67) × Int × Option Int)) : Bool := match o with | some p => p.2.2.2.2.2 == some 20 || p.2.2.2.2.2 == some 21 | none => false
theorem bareE_some {o : Option (ByteArray × ByteArray × Int × (List S67) × Int × Option Int)} (h : bareE o = true) : ∃ r1 r2 r3 r4 r5 r6, o = some (r1, r2, r3, r4, r5, r6) ∧ (r6 = some 20 ∨ r6 = some 21) := by
  cases o with
  | none => cases h
  | some p =>
    obtain ⟨r1, r2, r3, r4, r5, r6⟩ := p
    refine ⟨r1, r2, r3, r4, r5, r6, rfl, ?_⟩
    simpa [bareE] using h
def lwBare (k : Nat) (a0_0 : ByteArray) (a0_1 : ByteArray) (a0_2 : Int) (l0_3 : List S67) (a1 : Int) (a2 : Bool) : Option Bool :=
  (turnstileref09_Written.f k a0_0 a0_1 a0_2 l0_3).bind fun bt => some (if bt.2 = true ∧ 1 ≤ bt.1.length ∧ bt.1.length ≤ 32768 then nearB bt.1 (bareAt bt.1 a1 - 2) (min (bareAt bt.1 a1 + 2) bt.1.length) || bareE (head_ParseRequest.f (bareX bt.1 (bareAt bt.1 a1) a2) 65536) else true)
set_option maxHeartbeats 3200000 in
theorem lwBare_calls (k : Nat) (a0_0 : ByteArray) (a0_1 : ByteArray) (a0_2 : Int) (A0_3 : Option Addr) (c0_3 : Nat) (l0_3 : List S67) (a1 : Int) (a2 : Bool) (w : World) (hr0_3 : Kd.C k67 w A0_3 l0_3.length l0_3) (hc0_3 : l0_3.length ≤ c0_3) (hGE : GlobE w) (h : lwBare k a0_0 a0_1 a0_2 l0_3 a1 a2 = some true) :
    Calls Tryd.prog 6 #[.agg #[.string a0_0, .string a0_1, .int .i64 a0_2, .slice A0_3 l0_3.length c0_3], .int .i64 a1, .bool a2] w fun e w' => e = .returned (.bool true) ∧ Below w.heap.size w w' := by
  have HR0_3 := Aside0.mk hr0_3
  have HC0_3 := Aside0.mk hc0_3
  have HB := Aside0.mk (Below.refl w.heap.size w)
  have HGE := Aside0.mk hGE
  clear hr0_3 hc0_3 hGE
  unfold lwBare at h
  obtain ⟨⟨b, may⟩, hW, h⟩ := Option.bind_eq_some_iff.mp h
  replace h := Option.some.inj h
  simp only at h
  have A2 := Aside0.mk hW
  clear hW
  have hu24 := Tryd.underlying24
  by_cases hc : may = true ∧ 1 ≤ b.length ∧ b.length ≤ 32768
  · obtain ⟨rfl, h1, h2⟩ := hc
    rw [if_pos ⟨rfl, h1, h2⟩] at h
    have HH := Aside0.mk h
    clear h
    have d1 : decide ((b.length : Int) < 1) = false := decide_eq_false (by omega)
    have d2 : decide ((b.length : Int) > 32768) = false := decide_eq_false (by omega)
    go_enter Tryd.func6, Tryd.ntmps6
    go_upto_region 4 with (first
      | ((with_reducible refine gate_dst (N := 3) rfl ?_)
         refine box_event ?hg (N := 3) ?hd (cs := #[.string a0_0, .string a0_1, .int .i64 a0_2, .slice A0_3 l0_3.length c0_3]) (t := 24) ?hr ?_
         case hd => rfl
         case hg => rfl
         case hr => first | (go_simp; done) | (go_simp; rfl)
         intro gb hg w4 hbox hb
         have HB1 := Aside0.mk hb
         have BK := Aside0.mk hbox
         have k0 : w4.cell? ⟨gb, 0, none⟩ = some (.string a0_0) := (blk_cell hbox 0).trans rfl
         have k1 : w4.cell? ⟨gb, 1, none⟩ = some (.string a0_1) := (blk_cell hbox 1).trans rfl
         have k2 : w4.cell? ⟨gb, 2, none⟩ = some (.int .i64 a0_2) := (blk_cell hbox 2).trans rfl
         have k3 : w4.cell? ⟨gb, 3, none⟩ = some (.slice A0_3 l0_3.length c0_3) := (blk_cell hbox 3).trans rfl
         have f0 := blk_frozen hbox 0
         have f1 := blk_frozen hbox 1
         have f2 := blk_frozen hbox 2
         have f3 := blk_frozen hbox 3
         clear hb hbox hg)
      | ((with_reducible refine gate_callee (f := 12) rfl ?_)
         refine goesL_ (some 18) rfl rfl Tryd.func12 (by kernel_rfl) rfl #[.agg #[.string a0_0, .string a0_1, .int .i64 a0_2, .slice A0_3 l0_3.length c0_3]] rfl (by (try simp only [List.map_toArray, List.map_cons, List.map_nil]); first | done | rfl) ?_
         (with_reducible refine (turnstileref09_Written.calls k a0_0 a0_1 a0_2 _ _ l0_3 b _ _ (Kd.C_below HR0_3.out HB1.out) HC0_3.out A2.out).mono ?_)
         rintro e w6 ⟨vb, rfl, ho, hb⟩
         refine ⟨_, rfl, ?_⟩
         obtain ⟨Ab, cb, eb, hcb, hCb⟩ := Kd.R_reads ho
         subst eb
         have HB2 := Aside0.mk (below_step HB1.out hb)
         have RB := Aside0.mk (Kd.R_lower ho (below_size HB1.out))
         have HCB := Aside0.mk hcb
         clear ho hb hcb hCb))
    have dz : (b.length : Int) ≠ 0 := by omega
    obtain ⟨i, hi, hib⟩ : ∃ i : Nat, wrap64 ((IntKind.u64.wrap a1).tmod (b.length : Int)) = (i : Int) ∧ (i < b.length ∧ i = bareAt b a1) := by
      have e : ∀ n : Int, IntKind.u64.wrap n = n % 18446744073709551616 := fun n => by simp [IntKind.wrap, IntKind.bits, IntKind.signed]
      have q0 : 0 ≤ IntKind.u64.wrap a1 := by rw [e]; omega
      have q1 := Int.emod_nonneg (IntKind.u64.wrap a1) dz
      have q2 := Int.emod_lt_of_pos (IntKind.u64.wrap a1) (show (0 : Int) < b.length by omega)
      refine ⟨bareAt b a1, ?_, ?_, rfl⟩
      · rw [Int.tmod_eq_emod_of_nonneg q0]
        unfold bareAt wrap64
        omega
      · unfold bareAt
        omega
    have HI := Aside0.mk hib
    have HL := Aside0.mk (And.intro h1 h2)
    clear hib
    go_upto_if 41 with (fail)
    (try simp only [Act.put, List.setIfInBounds_toArray, List.set_cons_zero, List.set_cons_succ])
    go_cut [10] (fun v10 wc => v10 = .int .u8 (bareC a2) ∧ Aside0 (wc = w6))
    case first =>
      cases a2 with
      | true =>
        go_wp2
        go_meet
        case rel => exact ⟨rfl, ⟨rfl⟩⟩
      | false =>
        go_wp2
        go_meet
        case rel => exact ⟨rfl, ⟨rfl⟩⟩
    case rest =>
      obtain ⟨rfl, hw⟩ := hcut
      obtain rfl := hw.out
      clear hw
      rw [hi]
      clear hi dz d1 d2
      obtain ⟨lo, hlo, hlo'⟩ : ∃ lo : Nat, (if wrap64 ((i : Int) - 2) < 0 then 0 else wrap64 ((i : Int) - 2)) = (lo : Int) ∧ lo = i - 2 := by
        have := HI.out.1
        have := HL.out.2
        refine ⟨i - 2, ?_, rfl⟩
        unfold wrap64
        split <;> omega
      obtain ⟨hm, hm1, hm2, hm'⟩ : ∃ m : Nat, (if (b.length : Int) < wrap64 ((i : Int) + 2) then (b.length : Int) else wrap64 ((i : Int) + 2)) = (m : Int) ∧ (if (b.length : Int) < (i : Int) + 2 then (b.length : Int) else (i : Int) + 2) = (m : Int) ∧ m = min (i + 2) b.length := by
        have := HI.out.1
        have := HL.out.2
        refine ⟨min (i + 2) b.length, ?_, ?_, rfl⟩
        · unfold wrap64
          split <;> omega
        · split <;> omega
      have HM := Aside0.mk hm'
      have HLO := Aside0.mk hlo'
      clear hm' hlo'
      go_wp2
      clear hlo h1 h2
      go_loopg [11] (hm + 1) (fun kq v11 w' => ∃ j : Nat, v11 = .int .i64 (j : Int) ∧ Aside0 (j + kq = hm + 1 + lo ∧ lo ≤ j ∧ (j ≤ hm ∨ j = lo) ∧ nearB b lo j = false) ∧ Aside0 (Below w.heap.size w w') ∧ Aside0 (Kd.R (Kd.int .u8) 5 w' w.heap.size (fun _ => True) (.slice Ab b.length cb) b))
      case atStart => exact ⟨lo, rfl, ⟨by omega, Nat.le_refl _, .inr rfl, near_nil b lo⟩, HB2, RB⟩
      case round =>
        obtain ⟨j, rfl, HJ, HB3, RB3⟩ := hrel
        by_cases hj : j < hm
        · have hjb : j < b.length := by have := HM.out; omega
          have dj : decide ((j : Int) < (hm : Int)) = true := decide_eq_true (by omega)
          have djn : decide (j < hm) = true := decide_eq_true hj
          obtain ⟨ad, ea, hx⟩ := Kd.at_int (Kd.R_reads' RB3.out).2.2 (j : Int) (by omega) (by omega)
          subst ea
          rw [Int.toNat_natCast] at hx
          have p : (0 ≤ (j : Int)) = True := eq_true (by omega)
          have q : ((j : Int) < (b.length : Int)) = True := eq_true (by omega)
          have hns := near_step b lo j HJ.out.2.1 hjb
          have HNS := Aside0.mk hns
          clear hns
          have hw : wrap64 ((j : Int) + 1) = (j : Int) + 1 := by have := HL.out; unfold wrap64; omega
          by_cases c13 : rd b (j : Int) = 13
          · have d13 : (rd b (j : Int) == 13) = true := by simpa using c13
            clear c13 hj hjb
            go_wp2_with (first
              | ((with_reducible refine gate_callee (f := 18) rfl ?_)
                 refine goesL_ (some 66) rfl rfl Tryd.func18 (by kernel_rfl) rfl #[] rfl (by (try simp only [List.map_toArray, List.map_cons, List.map_nil]); first | done | rfl) ?_
                 (with_reducible refine (turnstilelaw09_sure.calls true _ rfl).mono ?_)
                 rintro e w7 ⟨rfl, hb⟩
                 refine ⟨_, rfl, ?_⟩
                 have HB4 := Aside0.mk (below_step HB3.out hb)
                 clear hb))
            go_ret
            exact ⟨rfl, HB4.out⟩
          · have d13 : (rd b (j : Int) == 13) = false := by simpa using c13
            by_cases c10 : rd b (j : Int) = 10
            · have d10 : (rd b (j : Int) == 10) = true := by simpa using c10
              clear c13 c10 hj hjb
              go_wp2_with (first
                | ((with_reducible refine gate_callee (f := 18) rfl ?_)
                   refine goesL_ (some 66) rfl rfl Tryd.func18 (by kernel_rfl) rfl #[] rfl (by (try simp only [List.map_toArray, List.map_cons, List.map_nil]); first | done | rfl) ?_
                   (with_reducible refine (turnstilelaw09_sure.calls true _ rfl).mono ?_)
                   rintro e w7 ⟨rfl, hb⟩
                   refine ⟨_, rfl, ?_⟩
                   have HB4 := Aside0.mk (below_step HB3.out hb)
                   clear hb))
              go_ret
              exact ⟨rfl, HB4.out⟩
            · have d10 : (rd b (j : Int) == 10) = false := by simpa using c10
              have D := Aside0.mk (And.intro d13 (And.intro d10 hj))
              clear c13 c10 hj hjb
              cases gk with
              | zero => exact absurd HJ.out.1 (by have := D.out.2.2; omega)
              | succ k1 =>
              go_wp2
              go_roundg k1
              case measure => omega
              case rel =>
                have h1 := HJ.out
                have h2 := D.out
                refine ⟨j + 1, by first | (push_cast; rfl) | (rw [hw]; push_cast; rfl), ⟨by omega, by omega, .inl (by omega), ?_⟩, HB3, RB3⟩
                rw [HNS.out, h1.2.2.2, h2.1, h2.2.1]
                rfl
        · have dj : decide ((j : Int) < (hm : Int)) = false := decide_eq_false (by omega)
          have djn : decide (j < hm) = false := decide_eq_false hj
          have hnear : nearB b (bareAt b a1 - 2) (min (bareAt b a1 + 2) b.length) = false := by
            have e1 := HI.out.2
            have e2 := HM.out
            have e3 := HLO.out
            have e4 := HJ.out
            rw [← e1, ← e2, ← e3]
            rcases Nat.lt_or_ge hm lo with hlt | hge
            · exact near_far b lo hm (by omega)
            · have : j = hm := by omega
              rw [← this]
              exact e4.2.2.2
          have hE : bareE (head_ParseRequest.f (bareX b i a2) 65536) = true := by
            have h9 := HH.out
            rw [hnear, Bool.false_or, ← HI.out.2] at h9
            exact h9
          obtain ⟨r1, r2, r3, r4, r5, r6, hp, h6⟩ := bareE_some hE
          have HP := Aside0.mk hp
          have H6 := Aside0.mk h6
          clear hnear hE hp h6 hj
          have hib := HI.out.1
          have hne : ¬ cb = i := by have := HCB.out; omega
          obtain ⟨i0, hi0, _, hsz, _⟩ := info_parts info5
          have s1 := cut_to (P := Tryd.prog) 27 5 .i64 Tryd.underlying27 hi0 Ab b.length cb (i : Int) (by omega) (by omega) HCB.out
          have s2 := cut_from (P := Tryd.prog) 27 5 .i64 Tryd.underlying27 hi0 1 hsz Ab b.length cb (i : Int) (by omega) (by omega)
          simp only [Int.toNat_natCast, if_neg hne] at s1 s2
          have q : ((i : Int) ≤ (b.length : Int)) = True := eq_true (by omega)
          have p : (0 ≤ (i : Int)) = True := eq_true (by omega)
          clear hib hne hi0 hsz
          have hli : (b.take i).length = i := by rw [List.length_take]; have := HI.out.1; omega
          have hld : (b.drop i).length = b.length - i := List.length_drop
          have CT : Aside0 (∀ W', Below wr.heap.size wr W' → (Kd.int .u8).C W' Ab i (b.take i)) := ⟨fun W' hW' => by
            have h9 := Kd.C_take (m := i) (Kd.R_reads' (Kd.R_below RB3.out hW')).2.2 (by have := HI.out.1; omega)
            rw [hli] at h9
            exact h9⟩
          have CD : Aside0 (∀ W', Below wr.heap.size wr W' → (Kd.int .u8).C W' (Ab.map (·.add i)) (b.length - i) (b.drop i)) := ⟨fun W' hW' => by
            have e1 : i * (Kd.int .u8).sz = i := Nat.mul_one i
            have h9 := Kd.C_drop (m := i) (c := cb) (Kd.R_reads' (Kd.R_below RB3.out hW')).2.2 (by have := HI.out.1; omega) HCB.out
            rw [hld, if_neg (by have := HI.out.1; have := HCB.out; omega), e1] at h9
            exact h9⟩
          have HLI := Aside0.mk hli
          have HLD := Aside0.mk hld
          clear hli hld
          go_wp2
          have HX := Aside0.mk (below_drew1 (Below.refl wr.heap.size wr))
          refine start_ (n := 13) (S := fun w' => True) (ds := []) #[false, false, false, false, false, false, false, false, false, false, false, false, false] (by kernel_rfl) rfl rfl trivial (fun hHeld => ?_)
          refine pure_ (i := 0) (N := some 67) (v := ?_) (a' := ?_) #[true, false, false, false, false, false, false, false, false, false, false, false, false] rfl rfl (by kernel_rfl) (fun _ _ _ h => h) (Or.inl ⟨by rfl, ?_⟩) ?_ ?_
          rotate_left
          · intro w'
            go_simp
            with_reducible rfl
          rotate_left
          · simp only [Act.put, List.setIfInBounds_toArray, List.set_cons_zero, List.set_cons_succ, i64_w, i32_w]
            rfl
          refine pure_ (i := 1) (N := some 68) (v := ?_) (a' := ?_) #[true, true, false, false, false, false, false, false, false, false, false, false, false] rfl rfl (by kernel_rfl) (fun _ _ _ h => h) (Or.inl ⟨by rfl, ?_⟩) ?_ ?_
          rotate_left
          · intro w'
            go_simp
            with_reducible rfl
          rotate_left
          · simp only [Act.put, List.setIfInBounds_toArray, List.set_cons_zero, List.set_cons_succ, i64_w, i32_w]
            rfl
          refine pure_ (i := 2) (N := some 69) (v := ?_) (a' := ?_) #[true, true, true, false, false, false, false, false, false, false, false, false, false] rfl rfl (by kernel_rfl) (fun _ _ _ h => h) (Or.inl ⟨by rfl, ?_⟩) ?_ ?_
          rotate_left
          · intro w'
            go_simp
            with_reducible rfl
          rotate_left
          · simp only [Act.put, List.setIfInBounds_toArray, List.set_cons_zero, List.set_cons_succ, i64_w, i32_w]
            rfl
          refine pure_ (i := 3) (N := some 70) (v := ?_) (a' := ?_) #[true, true, true, true, false, false, false, false, false, false, false, false, false] rfl rfl (by kernel_rfl) (fun _ _ _ h => h) (Or.inl ⟨by rfl, ?_⟩) ?_ ?_
          rotate_left
          · intro w'
            go_simp
            with_reducible rfl
          rotate_left
          · simp only [Act.put, List.setIfInBounds_toArray, List.set_cons_zero, List.set_cons_succ, i64_w, i32_w]
            rfl
          refine pure_ (i := 5) (N := some 72) (v := ?_) (a' := ?_) #[true, true, true, true, false, true, false, false, false, false, false, false, false] rfl rfl (by kernel_rfl) (fun _ _ _ h => h) (Or.inl ⟨by rfl, ?_⟩) ?_ ?_
          rotate_left
          · intro w'
            go_simp
            with_reducible rfl
          rotate_left
          · simp only [Act.put, List.setIfInBounds_toArray, List.set_cons_zero, List.set_cons_succ, i64_w, i32_w]
            rfl
          refine pure_ (i := 8) (N := some 75) (v := ?_) (a' := ?_) #[true, true, true, true, false, true, false, false, true, false, false, false, false] rfl rfl (by kernel_rfl) (fun _ _ _ h => h) (Or.inl ⟨by rfl, ?_⟩) ?_ ?_
          rotate_left
          · intro w'
            go_simp
            with_reducible rfl
          rotate_left
          · simp only [Act.put, List.setIfInBounds_toArray, List.set_cons_zero, List.set_cons_succ, i64_w, i32_w]
            rfl
          refine pure_ (i := 9) (N := some 76) (v := ?_) (a' := ?_) #[true, true, true, true, false, true, false, false, true, true, false, false, false] rfl rfl (by kernel_rfl) (fun _ _ _ h => h) (Or.inl ⟨by rfl, ?_⟩) ?_ ?_
          rotate_left
          · intro w'
            go_simp
            with_reducible rfl
          rotate_left
          · simp only [Act.put, List.setIfInBounds_toArray, List.set_cons_zero, List.set_cons_succ, i64_w, i32_w]
            rfl
          refine pure_ (i := 10) (N := some 77) (v := ?_) (a' := ?_) #[true, true, true, true, false, true, false, false, true, true, true, false, false] rfl rfl (by kernel_rfl) (fun _ _ _ h => h) (Or.inl ⟨by rfl, ?_⟩) ?_ ?_
          rotate_left
          · intro w'
            go_simp
            with_reducible rfl
          rotate_left
          · simp only [Act.put, List.setIfInBounds_toArray, List.set_cons_zero, List.set_cons_succ, i64_w, i32_w]
            rfl
          refine join_ (σ := Value × Value) 3 #[true, true, true, true, true, true, true, false, true, true, true, false, false] (fun s => [(71, s.1), (73, s.2)]) (fun s w' => Below wr.heap.size wr w' ∧ (Kd.int .u8).R 5 w' wr.heap.size (fun _ => True) s.1 ([] ++ b.take i) ∧ (Kd.int .u8).R 5 w' wr.heap.size (fun _ => True) s.2 [bareC a2]) ?_ ?_
          rotate_left
          · intro hCont
            refine two_ (i := 4) (j := 6) (Ni := some 71) (Nj := some 73) #[true, true, true, true, true, true, false, false, true, true, true, false, false] #[true, true, true, true, false, true, true, false, true, true, true, false, false] rfl rfl rfl rfl (by kernel_rfl) (by decide) (by decide) (fun K hK => ?_) (fun K hK => ?_)
            · skip
              refine Kd.R_append_rows_step (Kd.int .u8) (w0 := wr) wr.heap.size (by rfl) (.tmp 67) (.tmp 70) 27 5 (.int .u8 0) 1 rfl Tryd.underlying27 info5 rfl (by decide) (by omega) (.slice none 0 0) ([] : List Int) (b.take i) _ _ _ (fun _ => True) (fun _ => False) rfl rfl ?_ (CT.out _ HX.out) (fun _ _ h => h) (fun _ h => h.elim) (fun _ _ => trivial) HX.out (below_size HX.out) ?_ ?_
              · exact Kd.R_nil _ _ _ _ (fun _ => True)
              · have := HL.out; have := HI.out.1; simp only [List.length_nil]; omega
              intro x71 w1 ho hb hg hat
              have n0_ := Aside0.mk hb
              have RX := Aside0.mk ho
              clear HX
              have HX := n0_
              clear n0_ ho hb hg hat
              refine hK.out _ _ trivial (fun hHeld => ?_)
              clear hK K
              refine norm_ (a' := ?_) ?_ ?_
              rotate_left
              · show Act.put _ (some 71) _ = _
                simp only [Act.put, List.setIfInBounds_toArray, List.set_cons_zero, List.set_cons_succ, i64_w, i32_w]
                rfl
              refine one_ (i := 6) (N := some 73) #[true, true, true, true, true, true, true, false, true, true, true, false, false] rfl rfl (by kernel_rfl) (by decide) (fun K hK => ?_)
              refine Kd.R_lit_step (Kd.int .u8) (w0 := wr) wr.heap.size 5 (by rfl) (N := 73) rfl (xs := [bareC a2]) (inner := [.int .u8 (bareC a2)]) (ok := fun _ => True) (okp := fun _ => False) ?_ (Kd.reps_scalar (enc := Value.int .u8) [bareC a2]) (fun _ _ => trivial) trivial HX.out (below_size HX.out) (by simp) ?_
              · first | (go_simp; done) | (go_simp; rfl)
              intro x73 w1 ho hb hg hat
              have n0_ := Aside0.mk hb
              have RL := Aside0.mk ho
              have n1_ := Aside0.mk (Kd.R_grown RX.out hg (fun _ _ => by simp))
              clear RX
              have RX := n1_
              clear n1_
              clear HX
              have HX := n0_
              clear n0_ ho hb hg hat
              refine hK.out _ _ trivial (fun hHeld => ?_)
              clear hK K
              refine norm_ (a' := ?_) ?_ ?_
              rotate_left
              · show Act.put _ (some 73) _ = _
                simp only [Act.put, List.setIfInBounds_toArray, List.set_cons_zero, List.set_cons_succ, i64_w, i32_w]
                rfl
              exact norm_ (by simp only [putAll, Act.put, List.setIfInBounds_toArray, List.set_cons_zero, List.set_cons_succ]) (hCont (x71, x73) _ ⟨HX.out, RX.out, RL.out⟩)
            · skip
              refine Kd.R_lit_step (Kd.int .u8) (w0 := wr) wr.heap.size 5 (by rfl) (N := 73) rfl (xs := [bareC a2]) (inner := [.int .u8 (bareC a2)]) (ok := fun _ => True) (okp := fun _ => False) ?_ (Kd.reps_scalar (enc := Value.int .u8) [bareC a2]) (fun _ _ => trivial) trivial HX.out (below_size HX.out) (by simp) ?_
              · first | (go_simp; done) | (go_simp; rfl)
              intro x73 w1 ho hb hg hat
              have n0_ := Aside0.mk hb
              have RL := Aside0.mk ho
              clear HX
              have HX := n0_
              clear n0_ ho hb hg hat
              refine hK.out _ _ trivial (fun hHeld => ?_)
              clear hK K
              refine norm_ (a' := ?_) ?_ ?_
              rotate_left
              · show Act.put _ (some 73) _ = _
                simp only [Act.put, List.setIfInBounds_toArray, List.set_cons_zero, List.set_cons_succ, i64_w, i32_w]
                rfl
              refine one_ (i := 4) (N := some 71) #[true, true, true, true, true, true, true, false, true, true, true, false, false] rfl rfl (by kernel_rfl) (by decide) (fun K hK => ?_)
              refine Kd.R_append_rows_step (Kd.int .u8) (w0 := wr) wr.heap.size (by rfl) (.tmp 67) (.tmp 70) 27 5 (.int .u8 0) 1 rfl Tryd.underlying27 info5 rfl (by decide) (by omega) (.slice none 0 0) ([] : List Int) (b.take i) _ _ _ (fun _ => True) (fun _ => False) rfl rfl ?_ (CT.out _ HX.out) (fun _ _ h => h) (fun _ h => h.elim) (fun _ _ => trivial) HX.out (below_size HX.out) ?_ ?_
              · exact Kd.R_nil _ _ _ _ (fun _ => True)
              · have := HL.out; have := HI.out.1; simp only [List.length_nil]; omega
              intro x71 w1 ho hb hg hat
              have n0_ := Aside0.mk hb
              have RX := Aside0.mk ho
              have n1_ := Aside0.mk (Kd.R_grown RL.out hg (fun _ _ => by simp [Value.ownBlock]))
              clear RL
              have RL := n1_
              clear n1_
              clear HX
              have HX := n0_
              clear n0_ ho hb hg hat
              refine hK.out _ _ trivial (fun hHeld => ?_)
              clear hK K
              refine norm_ (a' := ?_) ?_ ?_
              rotate_left
              · show Act.put _ (some 71) _ = _
                simp only [Act.put, List.setIfInBounds_toArray, List.set_cons_zero, List.set_cons_succ, i64_w, i32_w]
                rfl
              exact norm_ (by simp only [putAll, Act.put, List.setIfInBounds_toArray, List.set_cons_zero, List.set_cons_succ]) (hCont (x71, x73) _ ⟨HX.out, RX.out, RL.out⟩)
          rintro ⟨x71, x73⟩ w5 ⟨hF1, hF2, hF3⟩
          have hHeld : True := trivial
          clear HX
          have HX := Aside0.mk hF1
          have RX := Aside0.mk hF2
          have RL := Aside0.mk hF3
          clear hF1 hF2 hF3
          obtain ⟨Al, cl, el, _⟩ := Kd.R_reads RL.out
          subst el
          refine norm_ (a' := ?_) ?_ ?_
          rotate_left
          · simp only [putAll, Act.put, List.setIfInBounds_toArray, List.set_cons_zero, List.set_cons_succ]
            rfl
          refine one_ (i := 7) (N := some 74) #[true, true, true, true, true, true, true, true, true, true, true, false, false] rfl rfl (by kernel_rfl) (by decide) (fun K hK => ?_)
          refine Kd.R_append_rows_step (Kd.int .u8) (w0 := wr) wr.heap.size (by rfl) (.tmp 71) (.tmp 73) 27 5 (.int .u8 0) 1 rfl Tryd.underlying27 info5 rfl (by decide) (by omega) x71 ([] ++ b.take i) [bareC a2] _ _ _ (fun _ => True) (fun _ => False) rfl rfl ?_ (Kd.R_reads' RL.out).2.2 (fun _ _ h => h) (fun _ h => h.elim) (fun _ _ => trivial) HX.out (below_size HX.out) ?_ ?_
          · exact RX.out
          · have := HL.out; have := HI.out.1; have := HLI.out; simp only [List.nil_append, List.length_singleton]; omega
          intro x74 w1 ho hb hg hat
          have n0_ := Aside0.mk hb
          have n2_ := Aside0.mk ho
          clear RX HX
          have HX := n0_
          have RX := n2_
          clear n0_ n2_ ho hb hg hat
          refine hK.out _ _ trivial (fun hHeld => ?_)
          clear hK K
          refine norm_ (a' := ?_) ?_ ?_
          rotate_left
          · show Act.put _ (some 74) _ = _
            simp only [Act.put, List.setIfInBounds_toArray, List.set_cons_zero, List.set_cons_succ, i64_w, i32_w]
            rfl
          refine one_ (i := 11) (N := some 78) #[true, true, true, true, true, true, true, true, true, true, true, true, false] rfl rfl (by kernel_rfl) (by decide) (fun K hK => ?_)
          refine Kd.R_append_rows_step (Kd.int .u8) (w0 := wr) wr.heap.size (by rfl) (.tmp 74) (.tmp 77) 27 5 (.int .u8 0) 1 rfl Tryd.underlying27 info5 rfl (by decide) (by omega) x74 ([] ++ b.take i ++ [bareC a2]) (b.drop i) _ _ _ (fun _ => True) (fun _ => False) rfl rfl ?_ (CD.out _ HX.out) (fun _ _ h => h) (fun _ h => h.elim) (fun _ _ => trivial) HX.out (below_size HX.out) ?_ ?_
          · exact RX.out
          · have := HL.out; have := HI.out.1; have := HLI.out; simp only [List.nil_append, List.length_append, List.length_singleton]; omega
          intro x78 w1 ho hb hg hat
          have n0_ := Aside0.mk hb
          have n2_ := Aside0.mk ho
          clear RX HX
          have HX := n0_
          have RX := n2_
          clear n0_ n2_ ho hb hg hat
          refine hK.out _ _ trivial (fun hHeld => ?_)
          clear hK K
          refine norm_ (a' := ?_) ?_ ?_
          rotate_left
          · show Act.put _ (some 78) _ = _
            simp only [Act.put, List.setIfInBounds_toArray, List.set_cons_zero, List.set_cons_succ, i64_w, i32_w]
            rfl
          refine pure_ (i := 12) (N := some 12) (v := ?_) (a' := ?_) #[true, true, true, true, true, true, true, true, true, true, true, true, true] rfl rfl (by kernel_rfl) (fun _ _ _ h => h) (Or.inl ⟨by rfl, ?_⟩) ?_ ?_
          rotate_left
          · intro w'
            go_simp
            with_reducible rfl
          rotate_left
          · simp only [Act.put, List.setIfInBounds_toArray, List.set_cons_zero, List.set_cons_succ, i64_w, i32_w]
            rfl
          refine done_ (by kernel_rfl) ?_
          have hX : bareX b i a2 = [] ++ b.take i ++ [bareC a2] ++ b.drop i := by simp [bareX]
          have HXX := Aside0.mk hX
          clear hX
          rw [← HXX.out] at RX
          obtain ⟨Ax, cx, ex, hcx, _⟩ := Kd.R_reads RX.out
          subst ex
          have HCX := Aside0.mk hcx
          have HBX := Aside0.mk (below_weaken HB3.out (below_size HB3.out) HX.out)
          clear hcx
          rcases H6.out with h6 | h6
          · subst h6
            have d20 : ((20 : Int) == 20) = true := rfl
            go_wp2_with (first
              | ((with_reducible refine gate_callee (f := 13) rfl ?_)
                 refine goesL_ (some 81) rfl rfl Tryd.func13 (by kernel_rfl) rfl #[.slice Ax (bareX b i a2).length cx, .int .i64 65536] rfl (by (try simp only [List.map_toArray, List.map_cons, List.map_nil]); first | done | rfl) ?_
                 (with_reducible refine (head_ParseRequest.calls _ _ (bareX b i a2) 65536 r1 r2 r3 r4 r5 (some 20) _ (Kd.R_reads' RX.out).2.2 HCX.out HP.out).mono ?_)
                 rintro e w7 ⟨v7, rfl, ho7, hb⟩
                 refine ⟨_, rfl, ?_⟩
                 have HB4 := Aside0.mk (below_step HBX.out hb)
                 obtain ⟨A7, c7, e7⟩ := Kd.R_slice ho7
                 subst e7
                 clear hb ho7)
              | ((with_reducible refine gate_callee (f := 23) rfl ?_)
                 refine goesL_ (some 86) rfl rfl Tryd.func23 (by kernel_rfl) rfl #[errW (some 20)] rfl (by (try simp only [List.map_toArray, List.map_cons, List.map_nil]); first | done | rfl) ?_
                 (with_reducible refine (turnstilelaw09_num.calls (some 20) 20 _ ?hg rfl).mono ?_)
                 case hg => exact GlobE.below HGE.out (by repeat (first | (with_reducible first | exact HB4.out | apply below_alloc | apply below_drew1) | exact HB4.out))
                 rintro e w8 ⟨rfl, hb⟩
                 refine ⟨_, rfl, ?_⟩
                 have HB5 := Aside0.mk (below_step (by repeat (first | (with_reducible first | exact HB4.out | apply below_alloc | apply below_drew1) | exact HB4.out)) hb)
                 clear hb)
              | ((with_reducible refine gate_callee (f := 18) rfl ?_)
                 refine gate_guard (by rfl) ?_
                 dsimp only
                 refine goesL_ (some 94) rfl rfl Tryd.func18 (by kernel_rfl) rfl #[] rfl (by (try simp only [List.map_toArray, List.map_cons, List.map_nil]); first | done | rfl) ?_
                 (with_reducible refine (turnstilelaw09_sure.calls true _ rfl).mono ?_)
                 rintro e w9 ⟨rfl, hb⟩
                 refine ⟨_, rfl, ?_⟩
                 have HB6 := Aside0.mk (below_step HB5.out hb)
                 clear hb))
            go_ret
            exact ⟨rfl, HB6.out⟩
          · subst h6
            have d20 : ((21 : Int) == 20) = false := rfl
            have d21 : ((21 : Int) == 21) = true := rfl
            go_wp2_with (first
              | ((with_reducible refine gate_callee (f := 13) rfl ?_)
                 refine goesL_ (some 81) rfl rfl Tryd.func13 (by kernel_rfl) rfl #[.slice Ax (bareX b i a2).length cx, .int .i64 65536] rfl (by (try simp only [List.map_toArray, List.map_cons, List.map_nil]); first | done | rfl) ?_
                 (with_reducible refine (head_ParseRequest.calls _ _ (bareX b i a2) 65536 r1 r2 r3 r4 r5 (some 21) _ (Kd.R_reads' RX.out).2.2 HCX.out HP.out).mono ?_)
                 rintro e w7 ⟨v7, rfl, ho7, hb⟩
                 refine ⟨_, rfl, ?_⟩
                 have HB4 := Aside0.mk (below_step HBX.out hb)
                 obtain ⟨A7, c7, e7⟩ := Kd.R_slice ho7
                 subst e7
                 clear hb ho7)
              | ((with_reducible refine gate_callee (f := 23) rfl ?_)
                 refine goesL_ (some 86) rfl rfl Tryd.func23 (by kernel_rfl) rfl #[errW (some 21)] rfl (by (try simp only [List.map_toArray, List.map_cons, List.map_nil]); first | done | rfl) ?_
                 (with_reducible refine (turnstilelaw09_num.calls (some 21) 21 _ ?hg rfl).mono ?_)
                 case hg => exact GlobE.below HGE.out (by repeat (first | (with_reducible first | exact HB4.out | apply below_alloc | apply below_drew1) | exact HB4.out))
                 rintro e w8 ⟨rfl, hb⟩
                 refine ⟨_, rfl, ?_⟩
                 have HB5 := Aside0.mk (below_step (by repeat (first | (with_reducible first | exact HB4.out | apply below_alloc | apply below_drew1) | exact HB4.out)) hb)
                 clear hb)
              | ((with_reducible refine gate_callee (f := 23) rfl ?_)
                 refine gate_guard (by rfl) ?_
                 dsimp only
                 refine goesL_ (some 90) rfl rfl Tryd.func23 (by kernel_rfl) rfl #[errW (some 21)] rfl (by (try simp only [List.map_toArray, List.map_cons, List.map_nil]); first | done | rfl) ?_
                 (with_reducible refine (turnstilelaw09_num.calls (some 21) 21 _ ?hg rfl).mono ?_)
                 case hg => exact GlobE.below HGE.out (by repeat (first | (with_reducible first | exact HB5.out | apply below_alloc | apply below_drew1) | exact HB5.out))
                 rintro e w8 ⟨rfl, hb⟩
                 refine ⟨_, rfl, ?_⟩
                 have HB7 := Aside0.mk (below_step (by repeat (first | (with_reducible first | exact HB5.out | apply below_alloc | apply below_drew1) | exact HB5.out)) hb)
                 clear hb)
              | ((with_reducible refine gate_callee (f := 18) rfl ?_)
                 refine gate_guard (by rfl) ?_
                 dsimp only
                 refine goesL_ (some 94) rfl rfl Tryd.func18 (by kernel_rfl) rfl #[] rfl (by (try simp only [List.map_toArray, List.map_cons, List.map_nil]); first | done | rfl) ?_
                 (with_reducible refine (turnstilelaw09_sure.calls true _ rfl).mono ?_)
                 rintro e w9 ⟨rfl, hb⟩
                 refine ⟨_, rfl, ?_⟩
                 have HB6 := Aside0.mk (below_step HB7.out hb)
                 clear hb))
            go_ret
            exact ⟨rfl, HB6.out⟩
  · clear h
    cases may with
    | false =>
      clear hc
      go_enter Tryd.func6, Tryd.ntmps6
      go_wp2_with (first
        | ((with_reducible refine gate_dst (N := 3) rfl ?_)
           refine box_event ?hg (N := 3) ?hd (cs := #[.string a0_0, .string a0_1, .int .i64 a0_2, .slice A0_3 l0_3.length c0_3]) (t := 24) ?hr ?_
           case hd => rfl
           case hg => rfl
           case hr => first | (go_simp; done) | (go_simp; rfl)
           intro gb hg w4 hbox hb
           have HB1 := Aside0.mk hb
           have BK := Aside0.mk hbox
           have k0 : w4.cell? ⟨gb, 0, none⟩ = some (.string a0_0) := (blk_cell hbox 0).trans rfl
           have k1 : w4.cell? ⟨gb, 1, none⟩ = some (.string a0_1) := (blk_cell hbox 1).trans rfl
           have k2 : w4.cell? ⟨gb, 2, none⟩ = some (.int .i64 a0_2) := (blk_cell hbox 2).trans rfl
           have k3 : w4.cell? ⟨gb, 3, none⟩ = some (.slice A0_3 l0_3.length c0_3) := (blk_cell hbox 3).trans rfl
           have f0 := blk_frozen hbox 0
           have f1 := blk_frozen hbox 1
           have f2 := blk_frozen hbox 2
           have f3 := blk_frozen hbox 3
           clear hb hbox hg)
        | ((with_reducible refine gate_callee (f := 12) rfl ?_)
           refine goesL_ (some 18) rfl rfl Tryd.func12 (by kernel_rfl) rfl #[.agg #[.string a0_0, .string a0_1, .int .i64 a0_2, .slice A0_3 l0_3.length c0_3]] rfl (by (try simp only [List.map_toArray, List.map_cons, List.map_nil]); first | done | rfl) ?_
           (with_reducible refine (turnstileref09_Written.calls k a0_0 a0_1 a0_2 _ _ l0_3 b _ _ (Kd.C_below HR0_3.out HB1.out) HC0_3.out A2.out).mono ?_)
           rintro e w6 ⟨vb, rfl, ho, hb⟩
           refine ⟨_, rfl, ?_⟩
           obtain ⟨Ab, cb, eb, hcb, hCb⟩ := Kd.R_reads ho
           subst eb
           have HB2 := Aside0.mk (below_step HB1.out hb)
           have RB := Aside0.mk (Kd.R_lower ho (below_size HB1.out))
           have HCB := Aside0.mk hcb
           clear ho hb hcb hCb)
        | ((with_reducible refine gate_callee (f := 18) rfl ?_)
           refine goesL_ (some 33) rfl rfl Tryd.func18 (by kernel_rfl) rfl #[] rfl (by (try simp only [List.map_toArray, List.map_cons, List.map_nil]); first | done | rfl) ?_
           (with_reducible refine (turnstilelaw09_sure.calls true _ rfl).mono ?_)
           rintro e w7 ⟨rfl, hb⟩
           refine ⟨_, rfl, ?_⟩
           have HB3 := Aside0.mk (below_step HB2.out hb)
           clear hb))
      go_ret
      exact ⟨rfl, HB3.out⟩
    | true =>
      by_cases h1 : b.length < 1
      · have d1 : decide ((b.length : Int) < 1) = true := decide_eq_true (by omega)
        have d1' : decide (b.length < 1) = true := decide_eq_true h1
        clear hc h1
        go_enter Tryd.func6, Tryd.ntmps6
        go_wp2_with (first
          | ((with_reducible refine gate_dst (N := 3) rfl ?_)
             refine box_event ?hg (N := 3) ?hd (cs := #[.string a0_0, .string a0_1, .int .i64 a0_2, .slice A0_3 l0_3.length c0_3]) (t := 24) ?hr ?_
             case hd => rfl
             case hg => rfl
             case hr => first | (go_simp; done) | (go_simp; rfl)
             intro gb hg w4 hbox hb
             have HB1 := Aside0.mk hb
             have BK := Aside0.mk hbox
             have k0 : w4.cell? ⟨gb, 0, none⟩ = some (.string a0_0) := (blk_cell hbox 0).trans rfl
             have k1 : w4.cell? ⟨gb, 1, none⟩ = some (.string a0_1) := (blk_cell hbox 1).trans rfl
             have k2 : w4.cell? ⟨gb, 2, none⟩ = some (.int .i64 a0_2) := (blk_cell hbox 2).trans rfl
             have k3 : w4.cell? ⟨gb, 3, none⟩ = some (.slice A0_3 l0_3.length c0_3) := (blk_cell hbox 3).trans rfl
             have f0 := blk_frozen hbox 0
             have f1 := blk_frozen hbox 1
             have f2 := blk_frozen hbox 2
             have f3 := blk_frozen hbox 3
             clear hb hbox hg)
          | ((with_reducible refine gate_callee (f := 12) rfl ?_)
             refine goesL_ (some 18) rfl rfl Tryd.func12 (by kernel_rfl) rfl #[.agg #[.string a0_0, .string a0_1, .int .i64 a0_2, .slice A0_3 l0_3.length c0_3]] rfl (by (try simp only [List.map_toArray, List.map_cons, List.map_nil]); first | done | rfl) ?_
             (with_reducible refine (turnstileref09_Written.calls k a0_0 a0_1 a0_2 _ _ l0_3 b _ _ (Kd.C_below HR0_3.out HB1.out) HC0_3.out A2.out).mono ?_)
             rintro e w6 ⟨vb, rfl, ho, hb⟩
             refine ⟨_, rfl, ?_⟩
             obtain ⟨Ab, cb, eb, hcb, hCb⟩ := Kd.R_reads ho
             subst eb
             have HB2 := Aside0.mk (below_step HB1.out hb)
             have RB := Aside0.mk (Kd.R_lower ho (below_size HB1.out))
             have HCB := Aside0.mk hcb
             clear ho hb hcb hCb)
          | ((with_reducible refine gate_callee (f := 18) rfl ?_)
             refine goesL_ (some 33) rfl rfl Tryd.func18 (by kernel_rfl) rfl #[] rfl (by (try simp only [List.map_toArray, List.map_cons, List.map_nil]); first | done | rfl) ?_
             (with_reducible refine (turnstilelaw09_sure.calls true _ rfl).mono ?_)
             rintro e w7 ⟨rfl, hb⟩
             refine ⟨_, rfl, ?_⟩
             have HB3 := Aside0.mk (below_step HB2.out hb)
             clear hb))
        go_ret
        exact ⟨rfl, HB3.out⟩
      · have d1 : decide ((b.length : Int) < 1) = false := decide_eq_false (by omega)
        have d1' : decide (b.length < 1) = false := decide_eq_false h1
        have h3 : ¬ b.length ≤ 32768 := fun q => hc ⟨rfl, by omega, q⟩
        have d2 : decide ((b.length : Int) > 32768) = true := decide_eq_true (by omega)
        clear hc h1
        go_enter Tryd.func6, Tryd.ntmps6
        go_wp2_with (first
          | ((with_reducible refine gate_dst (N := 3) rfl ?_)
             refine box_event ?hg (N := 3) ?hd (cs := #[.string a0_0, .string a0_1, .int .i64 a0_2, .slice A0_3 l0_3.length c0_3]) (t := 24) ?hr ?_
             case hd => rfl
             case hg => rfl
             case hr => first | (go_simp; done) | (go_simp; rfl)
             intro gb hg w4 hbox hb
             have HB1 := Aside0.mk hb
             have BK := Aside0.mk hbox
             have k0 : w4.cell? ⟨gb, 0, none⟩ = some (.string a0_0) := (blk_cell hbox 0).trans rfl
             have k1 : w4.cell? ⟨gb, 1, none⟩ = some (.string a0_1) := (blk_cell hbox 1).trans rfl
             have k2 : w4.cell? ⟨gb, 2, none⟩ = some (.int .i64 a0_2) := (blk_cell hbox 2).trans rfl
             have k3 : w4.cell? ⟨gb, 3, none⟩ = some (.slice A0_3 l0_3.length c0_3) := (blk_cell hbox 3).trans rfl
             have f0 := blk_frozen hbox 0
             have f1 := blk_frozen hbox 1
             have f2 := blk_frozen hbox 2
             have f3 := blk_frozen hbox 3
             clear hb hbox hg)
          | ((with_reducible refine gate_callee (f := 12) rfl ?_)
             refine goesL_ (some 18) rfl rfl Tryd.func12 (by kernel_rfl) rfl #[.agg #[.string a0_0, .string a0_1, .int .i64 a0_2, .slice A0_3 l0_3.length c0_3]] rfl (by (try simp only [List.map_toArray, List.map_cons, List.map_nil]); first | done | rfl) ?_
             (with_reducible refine (turnstileref09_Written.calls k a0_0 a0_1 a0_2 _ _ l0_3 b _ _ (Kd.C_below HR0_3.out HB1.out) HC0_3.out A2.out).mono ?_)
             rintro e w6 ⟨vb, rfl, ho, hb⟩
             refine ⟨_, rfl, ?_⟩
             obtain ⟨Ab, cb, eb, hcb, hCb⟩ := Kd.R_reads ho
             subst eb
             have HB2 := Aside0.mk (below_step HB1.out hb)
             have RB := Aside0.mk (Kd.R_lower ho (below_size HB1.out))
             have HCB := Aside0.mk hcb
             clear ho hb hcb hCb)
          | ((with_reducible refine gate_callee (f := 18) rfl ?_)
             refine goesL_ (some 33) rfl rfl Tryd.func18 (by kernel_rfl) rfl #[] rfl (by (try simp only [List.map_toArray, List.map_cons, List.map_nil]); first | done | rfl) ?_
             (with_reducible refine (turnstilelaw09_sure.calls true _ rfl).mono ?_)
             rintro e w7 ⟨rfl, hb⟩
             refine ⟨_, rfl, ?_⟩
             have HB3 := Aside0.mk (below_step HB2.out hb)
             clear hb))
        go_ret
        exact ⟨rfl, HB3.out⟩

end Go.Proofs.YtmmlacbcolfngaaDoor.Q
