/- What Go functions that a statement reaches come to, printed by a program of this session over the kit's printer; for all inputs at which the printed Lean function answers. -/
import Derived.Test.YtmmlacbcolfngaaDoorQ0
import Derived.StillTactics
import Derived.StillTailTactics
namespace Go.Proofs.YtmmlacbcolfngaaDoor.Q
open Go.RowKit Go.Proofs.YtmmlacbcolfngaaDoorW.PrintWords Go.Proofs.YtmmlacbcolfngaaDoorW.PrintLast Go.Proofs.YtmmlacbcolfngaaDoorW.PrintMore
attribute [local go_sem] max2_int min2_int max_two min_two max_three min_three max_four min_four
set_option linter.unusedVariables false
set_option linter.unusedSimpArgs false

/-! ### turnstileref09_head: function 50 -/
def turnstileref09_head_line (f : S67) : ByteArray := f.f0 ++ (⟨#[58, 32]⟩ : ByteArray) ++ f.f1 ++ (⟨#[13, 10]⟩ : ByteArray)
def turnstileref09_head_acc (a0 : ByteArray) (l : List S67) : List Int := l.foldl (fun a f => a ++ bytesOf (turnstileref09_head_line f)) (bytesOf (a0 ++ (⟨#[13, 10]⟩ : ByteArray)))
def turnstileref09_head_out (a0 : ByteArray) (l : List S67) : List Int := turnstileref09_head_acc a0 l ++ bytesOf (⟨#[13, 10]⟩ : ByteArray)
def turnstileref09_head.f (a0 : ByteArray) (l1 : List S67) : Option (List Int × Bool) :=
  if a0.size ≤ 1000000000 ∧ (∀ f, f ∈ l1 → f.f0.size ≤ 2097152 ∧ f.f1.size ≤ 2097152) ∧ l1.length ≤ 2097152 ∧ (turnstileref09_head_out a0 l1).length ≤ 140737488355000 then some (turnstileref09_head_out a0 l1, decide (((turnstileref09_head_out a0 l1).length : Int) ≤ 65536)) else none
theorem turnstileref09_head_step (a0 : ByteArray) (l : List S67) (f : S67) : turnstileref09_head_acc a0 (l ++ [f]) = turnstileref09_head_acc a0 l ++ bytesOf (turnstileref09_head_line f) := by
  unfold turnstileref09_head_acc
  rw [List.foldl_append]
  rfl
theorem turnstileref09_head_len (a0 : ByteArray) : ∀ (l : List S67), (∀ f, f ∈ l → f.f0.size ≤ 2097152 ∧ f.f1.size ≤ 2097152) → ∀ acc : List Int, (l.foldl (fun a f => a ++ bytesOf (turnstileref09_head_line f)) acc).length ≤ acc.length + l.length * 4194308
  | [], _, acc => by simp
  | f :: l, h, acc => by
    have hf := h f List.mem_cons_self
    have k := turnstileref09_head_len a0 l (fun g hg => h g (List.mem_cons_of_mem _ hg)) (acc ++ bytesOf (turnstileref09_head_line f))
    rw [List.length_append, bytesOf_length] at k
    have z : (turnstileref09_head_line f).size = f.f0.size + 2 + f.f1.size + 2 := by
      unfold turnstileref09_head_line
      simp [ByteArray.size_append]
      rfl
    rw [List.foldl_cons, List.length_cons]
    omega
set_option maxRecDepth 8000 in
theorem turnstileref09_head.calls (a0 : ByteArray) (A1 : Option Addr) (c1 : Nat) (l1 : List S67) (r1 : List Int) (r2 : Bool) (w : World) (hr1 : Kd.C k67 w A1 l1.length l1) (hc1 : l1.length ≤ c1) (h : turnstileref09_head.f a0 l1 = some (r1, r2)) :
    Calls Tryd.prog 50 #[.string a0, .slice A1 l1.length c1] w fun e w' => ∃ v0_ : Value, e = .returned (.tuple #[v0_, .bool r2]) ∧ Kd.R (Kd.int .u8) 5 w' w.heap.size (fun _ => True) v0_ r1 ∧ Below w.heap.size w w' := by
  unfold turnstileref09_head.f at h
  split at h
  case isFalse => cases h
  rename_i hc
  obtain ⟨rfl, rfl⟩ : _ ∧ _ := by simpa only [Option.some.injEq, Prod.mk.injEq] using h
  clear h
  have HC := Aside0.mk hr1
  obtain ⟨hz0, hzl, hzn, hc⟩ := hc
  have HZ := Aside0.mk hzl
  have HN := Aside0.mk hc
  clear hzl
  clear hr1 hc
  have B0 := Aside0.mk (Below.refl w.heap.size w)
  have O0 := Aside0.mk (own_nil w w.heap.size 5 1)
  go_enter Tryd.func50, Tryd.ntmps50
  go_wp2_with (first
    | ((with_reducible refine gate_builtin (b := .append) (xs := #[.tmp 8, .tmp 10]) rfl ?_); at_builtin
       refine print_append_str (w0 := w) w.heap.size rfl (.tmp 8) (.tmp 10) 27 9 5 rfl Tryd.underlying27 Tryd.underlying9 info5 (.slice none 0 0) [] (a0 ++ (⟨#[13, 10]⟩ : ByteArray)) rfl rfl ?aO ?aB ?aS ?aL ?_
       case aO => exact O0.out
       case aB => exact B0.out
       case aS => exact below_size B0.out
       case aL => (rw [List.length_nil, ByteArray.size_append]; have h2 : (⟨#[13, 10]⟩ : ByteArray).size = 2 := rfl; omega)
       intro x1 w1 ho hb hg
       have O1 := Aside0.mk ho
       have B1 := Aside0.mk hb
       clear ho hb hg)
    )
  clear B0 O0
  have i0 : (⟨#[]⟩ : ByteArray).size = 0 := rfl
  go_loopg [6, 7] (l1.length + 1) (fun kq v6 v7 w' => ∃ (i : Nat), v7 = .int .i64 (i : Int) ∧ Aside0 (i + kq = l1.length + 1 ∧ i ≤ l1.length) ∧ Aside0 (w'.ownsRow w.heap.size 5 1 v6 (turnstileref09_head_acc a0 (l1.take i)).length (nums .u8 (turnstileref09_head_acc a0 (l1.take i)))) ∧ Aside0 (Below w.heap.size w w'))
  case atStart => exact ⟨0, rfl, ⟨by omega, by omega⟩, ⟨by simpa [turnstileref09_head_acc] using O1.out⟩, B1⟩
  case round =>
    obtain ⟨i, rfl, HI, O2, B2⟩ := hrel
    by_cases hi : i < l1.length
    · have di : decide ((i : Int) < (l1.length : Int)) = true := decide_eq_true (by omega)
      obtain ⟨ad, ea, hx0, hx1⟩ := at_T67 (Kd.C_below HC.out B2.out) (i : Int) (by omega) (by omega)
      subst ea
      rw [Int.toNat_natCast] at hx0 hx1
      have hmem : rd_T67 l1 (i : Int) ∈ l1 := by
        unfold rd_T67
        rw [Int.toNat_natCast, List.getD_eq_getElem?_getD, List.getElem?_eq_getElem hi, Option.getD_some]
        exact List.getElem_mem hi
      have z0 := (HZ.out _ hmem).1
      have z1 := (HZ.out _ hmem).2
      clear hmem
      have y0 : (9223372036854775807 < (rd_T67 l1 (i : Int)).f0.size + 2) = False := eq_false (by omega)
      have y1 : (9223372036854775807 < (rd_T67 l1 (i : Int)).f0.size + 2 + (rd_T67 l1 (i : Int)).f1.size) = False := eq_false (by omega)
      have y2 : (9223372036854775807 < (rd_T67 l1 (i : Int)).f0.size + 2 + (rd_T67 l1 (i : Int)).f1.size + 2) = False := eq_false (by omega)
      have p : (0 ≤ (i : Int)) = True := eq_true (by omega)
      have q : ((i : Int) < (l1.length : Int)) = True := eq_true (by omega)
      cases gk with
      | zero => exact absurd HI.out.1 (by omega)
      | succ k1 =>
      go_wp2
      go_still_tail 14, (by kernel_rfl)
      have hlen := turnstileref09_head_len a0 (l1.take i) (fun f hf => HZ.out f (List.mem_of_mem_take hf)) (bytesOf (a0 ++ (⟨#[13, 10]⟩ : ByteArray)))
      rw [bytesOf_length, List.length_take, ByteArray.size_append] at hlen
      have h2 : (⟨#[13, 10]⟩ : ByteArray).size = 2 := rfl
      have hls : (turnstileref09_head_line (rd_T67 l1 (i : Int))).size ≤ 4194308 := by
        unfold turnstileref09_head_line
        simp only [ByteArray.size_append]
        have h3 : (⟨#[58, 32]⟩ : ByteArray).size = 2 := rfl
        omega
      have hacc : (turnstileref09_head_acc a0 (l1.take i)).length ≤ 1000000002 + 2097152 * 4194308 := by
        unfold turnstileref09_head_acc
        have : min i l1.length ≤ 2097152 := by omega
        have := Nat.mul_le_mul_right 4194308 this
        omega
      change wpList _ _ _ _ _ wr.drew
      refine print_append_str (w0 := w) (W := wr.drew) w.heap.size rfl (.tmp 18) (.tmp 31) 27 9 5 rfl Tryd.underlying27 Tryd.underlying9 info5 u6 (turnstileref09_head_acc a0 (l1.take i)) (turnstileref09_head_line (rd_T67 l1 (i : Int))) rfl rfl (own_drew O2.out) (below_drew1 B2.out) (below_size (below_drew1 B2.out)) (by omega) ?_
      intro x2 w2 ho hb hg
      have O3 := Aside0.mk ho
      have B3 := Aside0.mk hb
      clear ho hb hg hlen h2 hls hacc
      have hw : wrap64 ((i : Int) + 1) = (i : Int) + 1 := by unfold wrap64; omega
      go_wp2
      go_roundg k1
      case measure => omega
      case rel =>
        have ht : l1.take (i + 1) = l1.take i ++ [rd_T67 l1 (i : Int)] := by
          unfold rd_T67
          rw [Int.toNat_natCast, List.getD_eq_getElem?_getD, List.getElem?_eq_getElem hi, Option.getD_some]
          exact (List.take_append_getElem hi).symm
        have h1 := HI.out
        refine ⟨i + 1, by push_cast; rfl, ⟨by omega, by omega⟩, ⟨?_⟩, B3⟩
        rw [ht, turnstileref09_head_step]
        exact O3.out
    · have di : decide ((i : Int) < (l1.length : Int)) = false := decide_eq_false (by omega)
      have hil : i = l1.length := by have := HI.out.2; omega
      have ht : l1.take i = l1 := by rw [hil]; simp
      rw [ht] at O2
      have HT := Aside0.mk ht
      clear ht hil
      have hlo : (turnstileref09_head_acc a0 l1).length + (⟨#[13, 10]⟩ : ByteArray).size ≤ 140737488355328 := by
        have h9 := HN.out
        unfold turnstileref09_head_out at h9
        rw [List.length_append, bytesOf_length] at h9
        omega
      have HLO := Aside0.mk hlo
      clear hlo
      go_wp2_with (first
        | ((with_reducible refine gate_builtin (b := .append) (xs := #[.tmp 33, .const (.string (⟨#[13, 10]⟩ : ByteArray))]) rfl ?_); at_builtin
           refine print_append_str (w0 := w) w.heap.size rfl (.tmp 33) (.const (.string (⟨#[13, 10]⟩ : ByteArray))) 27 9 5 rfl Tryd.underlying27 Tryd.underlying9 info5 u6 (turnstileref09_head_acc a0 l1) (⟨#[13, 10]⟩ : ByteArray) rfl rfl O2.out B2.out (below_size B2.out) HLO.out ?_
           intro x4 w4 ho hb hg
           have ho' : w4.ownsRow w.heap.size 5 1 x4 (turnstileref09_head_out a0 l1).length (nums .u8 (turnstileref09_head_out a0 l1)) := ho
           obtain ⟨A4, c4, ex⟩ := own_slice ho'
           subst ex
           have O4 := Aside0.mk ho'
           have B4 := Aside0.mk hb
           clear ho ho' hb hg))
      go_ret2
      first | exact ⟨_, rfl, Kd.R_of_own O4.out (fun _ _ => trivial), B4.out⟩ | exact ⟨rfl, _, Kd.R_of_own O4.out (fun _ _ => trivial), B4.out⟩


end Go.Proofs.YtmmlacbcolfngaaDoor.Q
