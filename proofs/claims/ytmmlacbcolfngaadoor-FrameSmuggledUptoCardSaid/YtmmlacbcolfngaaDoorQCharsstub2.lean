/- What Go functions that a statement reaches come to, printed by a program of this session over the kit's printer; for all inputs at which the printed Lean function answers. -/
import Derived.Test.YtmmlacbcolfngaaDoorQ0
import Derived.IntWalk
namespace Go.Proofs.YtmmlacbcolfngaaDoor.Q
open Go.RowKit Go.Proofs.YtmmlacbcolfngaaDoorW.PrintWords Go.Proofs.YtmmlacbcolfngaaDoorW.PrintLast Go.Proofs.YtmmlacbcolfngaaDoorW.PrintMore
attribute [local go_sem] max2_int min2_int max_two min_two max_three min_three max_four min_four
set_option linter.unusedVariables false
set_option linter.unusedSimpArgs false

/-! ### chars_digits: function 76 -/
def dch (m : Nat) : UInt8 := if m < 10 then (48 + m).toUInt8 else (87 + m).toUInt8
def dgs (b : Nat) : Nat → Nat → List UInt8 → List UInt8
  | 0, _, acc => acc
  | f + 1, n, acc => if n / b = 0 then dch (n % b) :: acc else dgs b f (n / b) (dch (n % b) :: acc)
def chars_digits.f (a0 a1 : Int) : Option ByteArray := if 0 ≤ a0 ∧ a0 < 18446744073709551616 ∧ 10 ≤ a1 ∧ a1 ≤ 16 then some ⟨(dgs a1.toNat 20 a0.toNat []).toArray⟩ else none
def cellsD (i : Nat) (l : List UInt8) : Array Value := (List.replicate i (Value.int .u8 0) ++ l.map (fun c => Value.int .u8 (c.toNat : Int))).toArray
theorem cellsD_zero : (#[Value.int .u8 0, .int .u8 0, .int .u8 0, .int .u8 0, .int .u8 0, .int .u8 0, .int .u8 0, .int .u8 0, .int .u8 0, .int .u8 0, .int .u8 0, .int .u8 0, .int .u8 0, .int .u8 0, .int .u8 0, .int .u8 0, .int .u8 0, .int .u8 0, .int .u8 0, .int .u8 0] : Array Value) = cellsD 20 [] := rfl
theorem cellsD_get (i : Nat) (l : List UInt8) (j : Nat) (h : j < i) : (cellsD i l)[j]? = some (.int .u8 0) := by
  simp [cellsD, List.getElem?_append, h]
theorem cellsD_tail (i : Nat) (l : List UInt8) (j : Nat) (h : j < l.length) : (cellsD i l)[i + j]? = some (.int .u8 (l[j].toNat : Int)) := by
  simp [cellsD, List.getElem?_append, h]
theorem cellsD_set (i : Nat) (l : List UInt8) (c : UInt8) : (cellsD (i + 1) l).setIfInBounds i (.int .u8 (c.toNat : Int)) = cellsD i (c :: l) := by
  simp [cellsD, List.replicate_succ', List.set_append]
theorem dig_lt (n b : Nat) (i : Nat) (hb : 10 ≤ b) (h : n < b ^ (i + 1)) : n / b < b ^ i := by
  rw [Nat.div_lt_iff_lt_mul (by omega)]
  rwa [Nat.pow_succ] at h
theorem dig_top (n b : Nat) (hb : 10 ≤ b) (h : n < 18446744073709551616) : n < b ^ 20 := Nat.lt_of_lt_of_le h (Nat.le_trans (by decide) (Nat.pow_le_pow_left hb 20))
def dgR (b i n : Nat) (l : List UInt8) : List UInt8 := if i = 20 ∨ 0 < n then dgs b i n l else l
theorem dgR_step (b i n : Nat) (l : List UInt8) (hi : i < 20) (h : i + 1 = 20 ∨ 0 < n) : dgR b i (n / b) (dch (n % b) :: l) = dgR b (i + 1) n l := by
  unfold dgR
  rw [if_pos h]
  conv => rhs; unfold dgs
  by_cases hz : n / b = 0
  · rw [if_pos hz, if_neg (by omega)]
  · rw [if_neg hz, if_pos (.inr (Nat.pos_of_ne_zero hz))]
theorem dstr_get (j : Nat) (h : j < 16) : ((⟨#[48, 49, 50, 51, 52, 53, 54, 55, 56, 57, 97, 98, 99, 100, 101, 102]⟩ : ByteArray)[j]'h) = dch j := by
  have : j = 0 ∨ j = 1 ∨ j = 2 ∨ j = 3 ∨ j = 4 ∨ j = 5 ∨ j = 6 ∨ j = 7 ∨ j = 8 ∨ j = 9 ∨ j = 10 ∨ j = 11 ∨ j = 12 ∨ j = 13 ∨ j = 14 ∨ j = 15 := by omega
  rcases this with rfl | rfl | rfl | rfl | rfl | rfl | rfl | rfl | rfl | rfl | rfl | rfl | rfl | rfl | rfl | rfl <;> rfl
set_option maxHeartbeats 4000000 in
set_option maxRecDepth 100000 in
theorem chars_digits.calls (a0 a1 : Int) (r : ByteArray) (w : World) (h : chars_digits.f a0 a1 = some r) :
    Calls Tryd.prog 76 #[.int .u64 a0, .int .u64 a1] w fun e w' => e = .returned (.string r) ∧ Below w.heap.size w w' := by
  unfold chars_digits.f at h
  split at h
  case isFalse => cases h
  rename_i hb
  obtain ⟨h0, h1, hb0, hb1⟩ := hb
  obtain ⟨n, rfl⟩ := Int.eq_ofNat_of_zero_le h0
  obtain ⟨b, rfl⟩ := Int.eq_ofNat_of_zero_le (show (0 : Int) ≤ a1 by omega)
  have hr := Aside0.mk (Option.some.inj h)
  clear h
  have HN := Aside0.mk (show n < 18446744073709551616 by omega)
  clear h1 h0
  go_enter Tryd.func76, Tryd.ntmps76
  go_wp2
  go_loopw [0, 6] (fun vn vi wr => ∃ (m i : Nat) (l : List UInt8), vn = .int .u64 m ∧ vi = .int .i64 i ∧ i ≤ 20 ∧ Aside0 (m < 18446744073709551616) ∧ Aside0 (l.length + i = 20) ∧ Aside0 (dgR b i m l = dgs b 20 n []) ∧ Aside0 (m < b ^ i) ∧ Aside0 (wr.heap[w.heap.size]? = some (.cells (cellsD i l) 133 (0, 0))) ∧ Aside0 (Below w.heap.size w wr)) (fun _ vi _ => (intOf vi).toNat)
  case atStart => exact ⟨n, 20, [], rfl, rfl, by omega, HN, ⟨rfl⟩, ⟨by simp [dgR]⟩, ⟨dig_top n b (by omega) HN.out⟩, ⟨by rw [← cellsD_zero]; exact blk_new _ _⟩, ⟨below_alloc (Below.refl _ _) _⟩⟩
  case round =>
    obtain ⟨m, i, l, rfl, rfl, hi, Hm, HL, HR, HM, HC, HB⟩ := hrel
    by_cases hgo : i = 20 ∨ 0 < m
    · have hi1 : 1 ≤ i := by
        rcases hgo with rfl | hgo
        · omega
        · rcases Nat.eq_zero_or_pos i with rfl | hp
          · have := HM.out; simp at this; omega
          · omega
      have HG := Aside0.mk hgo
      clear hgo
      have hix : ((i : Int) - 1).toNat = i - 1 := by omega
      have hmb : (m : Int) % (b : Int) < 16 := by have := Int.emod_lt_of_pos (m : Int) (show (0 : Int) < b by omega); omega
      have hmn : m % b < 16 := by have := Nat.mod_lt m (show 0 < b by omega); omega
      have hw : IntKind.u64.wrap ((m : Int) / (b : Int)) = ((m / b : Nat) : Int) := by
        have h1 := Hm.out
        have h2 : m / b ≤ m := Nat.div_le_self m b
        rw [← Int.natCast_ediv]
        generalize m / b = q at h2 ⊢
        exact IntWalk.u64_in _ (by omega)
      have hc : wr.cell? ⟨w.heap.size, i - 1, none⟩ = some (.int .u8 0) := by rw [blk_cell HC.out (i - 1)]; exact cellsD_get i l (i - 1) (by omega)
      have hf : wr.frozen? ⟨w.heap.size, i - 1, none⟩ = false := blk_frozen HC.out (i - 1)
      have hfin : ∃ (m_1 i_1 : Nat) (l' : List UInt8), Value.int IntKind.u64 ((m / b : Nat) : Int) = Value.int IntKind.u64 ↑m_1 ∧ Value.int IntKind.i64 ((i : Int) - 1) = Value.int IntKind.i64 ↑i_1 ∧ i_1 ≤ 20 ∧ Aside0 (m_1 < 18446744073709551616) ∧ Aside0 (l'.length + i_1 = 20) ∧ Aside0 (dgR b i_1 m_1 l' = dgs b 20 n []) ∧ Aside0 (m_1 < b ^ i_1) ∧
          Aside0 ((wr.setCell ⟨w.heap.size, i - 1, none⟩ (.int .u8 ((⟨#[48, 49, 50, 51, 52, 53, 54, 55, 56, 57, 97, 98, 99, 100, 101, 102]⟩ : ByteArray)[m % b].toNat : Int))).heap[w.heap.size]? = some (.cells (cellsD i_1 l') 133)) ∧ Aside0 (Below w.heap.size w (wr.setCell ⟨w.heap.size, i - 1, none⟩ (.int .u8 ((⟨#[48, 49, 50, 51, 52, 53, 54, 55, 56, 57, 97, 98, 99, 100, 101, 102]⟩ : ByteArray)[m % b].toNat : Int)))) := by
        obtain ⟨i, rfl⟩ : ∃ j, i = j + 1 := ⟨i - 1, by omega⟩
        refine ⟨m / b, i, dch (m % b) :: l, rfl, by congr 1; omega, by omega, ⟨Nat.lt_of_le_of_lt (Nat.div_le_self _ _) Hm.out⟩, ⟨by have := HL.out; simp; omega⟩, ⟨by rw [dgR_step b i m l (by omega) HG.out]; exact HR.out⟩, ⟨dig_lt m b i (by omega) HM.out⟩, ⟨?_⟩, ⟨below_set HB.out (Nat.le_refl _)⟩⟩
        refine blk_put HC.out i _ ?_
        rw [← cellsD_set]
        congr 2
        rw [dstr_get (m % b) hmn]
      have HF := Aside0.mk hfin
      clear hfin
      by_cases h20 : i = 20
      · have t1 : ((i : Int) == 20) = true := beq_iff_eq.2 (by omega)
        clear h20
        go_wp2
        exact ⟨HF.out, by simp [intOf]; omega⟩
      · have t1 : ((i : Int) == 20) = false := beq_eq_false_iff_ne.2 (by omega)
        have t2 : decide (0 < m) = true := decide_eq_true (by have := HG.out; omega)
        clear h20
        go_wp2
        exact ⟨HF.out, by simp [intOf]; omega⟩
    · have t1 : ((i : Int) == 20) = false := beq_eq_false_iff_ne.2 (by omega)
      have t2 : decide (0 < m) = false := decide_eq_false (by omega)
      have HG := Aside0.mk hgo
      clear hgo
      have hal : Tryd.prog.arrayLen 133 = 20 := by kernel_rfl
      have hne : ¬ (20 = i) := by have := HG.out; omega
      have hsl : ∀ W : World, (Instr.sliceAt 133 (.pointer (some ⟨w.heap.size, 0, none⟩)) (some (.int .i64 (i : Int))) none none).run Tryd.prog W = .ok (.slice (some ⟨w.heap.size, i, none⟩) (20 - i) (20 - i)) W := fun W => by
        have := run_sliceAt_array_l (P := Tryd.prog) (w := W) (t := 133) (a := ⟨w.heap.size, 0, none⟩) (by kernel_rfl) .i64 (i : Int) (by omega) (by rw [hal]; omega)
        rw [this, hal]
        have hsz : (sizeOf (Tryd.prog.elem 133)).run Tryd.prog W = .ok 1 W := by kernel_rfl
        rw [hsz]
        simp [Result.andThen, slicedAt, hne, Addr.add]
        omega
      have hcv : (convert 27 9 (.slice (some ⟨w.heap.size, i, none⟩) (20 - i) (20 - i))).run Tryd.prog wr = .ok (.string ⟨l.toArray⟩) wr := by
        have := run_convert_bytes_back (P := Tryd.prog) wr 27 9 5 ⟨w.heap.size, i, none⟩ (20 - i) l (by kernel_rfl) (by kernel_rfl) (by kernel_rfl) (fun j hj => by
          rw [show (⟨w.heap.size, i, none⟩ : Addr).add j = ⟨w.heap.size, i + j, none⟩ from by simp [Addr.add]]
          rw [blk_cell HC.out (i + j)]
          exact cellsD_tail i l j hj)
        rw [show l.length = 20 - i by have := HL.out; omega] at this
        exact this
      have hres : Value.string ⟨l.toArray⟩ = Value.string r := by
        rw [← hr.out]
        have := HR.out
        rw [dgR, if_neg HG.out] at this
        rw [this]
        simp
      have HRES := Aside0.mk hres
      clear hal hne hres
      go_wp2
      go_ret
      exact ⟨congrArg (fun v => Ending.returned v) HRES.out, HB.out⟩

end Go.Proofs.YtmmlacbcolfngaaDoor.Q
