/- What Go functions that a statement reaches come to, printed by a program of this session over the kit's printer; for all inputs at which the printed Lean function answers. -/
import Derived.Test.YtmmlacbcolfngaaDoorQ0
import Derived.Test.YtmmlacbcolfngaaDoorHRdOut
namespace Go.Proofs.YtmmlacbcolfngaaDoor.Q
open Go.RowKit Go.Proofs.YtmmlacbcolfngaaDoorW.PrintWords Go.Proofs.YtmmlacbcolfngaaDoorW.PrintLast Go.Proofs.YtmmlacbcolfngaaDoorW.PrintMore
attribute [local go_sem] max2_int min2_int max_two min_two max_three min_three max_four min_four
set_option linter.unusedVariables false
set_option linter.unusedSimpArgs false

/-! ### head_ParseRequest: function 13 -/
def head_ParseRequest.f (l0 : List Int) (a1 : Int) : Option (ByteArray × ByteArray × Int × (List S67) × Int × Option Int) :=
  if l0.length ≤ 9000000000000000000 ∧ (∀ x, x ∈ l0 → 0 ≤ x ∧ x ≤ 255) then
    some (if a1 < 1 ∨ a1 > 65536 then ((⟨#[]⟩ : ByteArray), (⟨#[]⟩ : ByteArray), (0 : Int), ([] : List S67), (0 : Int), some 1) else (RdSt.new a1 true 0).res l0 (fun x => ((⟨#[]⟩ : ByteArray), (⟨#[]⟩ : ByteArray), (0 : Int), ([] : List S67), (0 : Int), some x)) (fun st n => (st.qm, st.qt, st.qn, st.field, n, none)))
  else none
theorem head_ParseRequest.calls (A0 : Option Addr) (c0 : Nat) (l0 : List Int) (a1 : Int) (r1 : ByteArray) (r2 : ByteArray) (r3 : Int) (r4 : List S67) (r5 : Int) (r6 : Option Int) (w : World) (hr0 : Kd.C (Kd.int .u8) w A0 l0.length l0) (hc0 : l0.length ≤ c0) (h : head_ParseRequest.f l0 a1 = some (r1, r2, r3, r4, r5, r6)) :
    Calls Tryd.prog 13 #[.slice A0 l0.length c0, .int .i64 a1] w fun e w' => ∃ v3_ : Value, e = .returned (.tuple #[.agg #[.string r1, .string r2, .int .i64 r3, v3_], .int .i64 r5, errW r6]) ∧ Kd.R k67 67 w' w.heap.size (fun _ => True) v3_ r4 ∧ Below w.heap.size w w' := by
  unfold head_ParseRequest.f at h
  split at h
  case isFalse => cases h
  rename_i hc
  obtain ⟨hn, hx⟩ := hc
  by_cases hm : a1 < 1 ∨ a1 > 65536
  · rw [if_pos hm] at h
    obtain ⟨rfl, rfl, rfl, rfl, rfl, rfl⟩ : _ ∧ _ ∧ _ ∧ _ ∧ _ ∧ _ := by simpa only [Option.some.injEq, Prod.mk.injEq] using h
    exact (parseRequest_bad w A0 l0 c0 a1 hm).mono (fun e w' ⟨he, hb⟩ => ⟨_, he, Kd.R_nil _ _ _ _ _, hb⟩)
  · rw [if_neg hm] at h
    rcases res_cases (RdSt.new a1 true 0) l0 (fun x => ((⟨#[]⟩ : ByteArray), (⟨#[]⟩ : ByteArray), (0 : Int), ([] : List S67), (0 : Int), some x)) (fun st n => (st.qm, st.qt, st.qn, st.field, n, none)) (new_ok a1 true 0 hm) with ⟨x, ha, hr⟩ | ⟨n, ha, hd, hf, hr⟩
    · rw [hr] at h
      obtain ⟨rfl, rfl, rfl, rfl, rfl, rfl⟩ : _ ∧ _ ∧ _ ∧ _ ∧ _ ∧ _ := by simpa only [Option.some.injEq, Prod.mk.injEq] using h
      exact (parseRequest_err w A0 l0 c0 a1 hr0 hn hx hm x ha).mono (fun e w' ⟨he, hb⟩ => ⟨_, he, Kd.R_nil _ _ _ _ _, hb⟩)
    · rw [hr] at h
      obtain ⟨rfl, rfl, rfl, rfl, rfl, rfl⟩ : _ ∧ _ ∧ _ ∧ _ ∧ _ ∧ _ := by simpa only [Option.some.injEq, Prod.mk.injEq] using h
      exact (parseRequest_ok w A0 l0 c0 a1 hr0 hn hx hm n ha hd hf).mono (fun e w' ⟨v, he, hR, hb⟩ => ⟨v, he, hR, hb⟩)

end Go.Proofs.YtmmlacbcolfngaaDoor.Q
