/- What Go functions that a statement reaches come to, printed by a program of this session over the kit's printer; for all inputs at which the printed Lean function answers. -/
import Derived.Test.YthfphoojdhgjoaaDoorQ0
import Derived.IntWalk
import Derived.Laws.IdiomStrings
import Derived.Lib.ConvBytes
namespace Go.Proofs.YthfphoojdhgjoaaDoor.Q
open Go.RowKit Go.Proofs.YthfphoojdhgjoaaDoorW.PrintWords Go.Proofs.YthfphoojdhgjoaaDoorW.PrintLast Go.Proofs.YthfphoojdhgjoaaDoorW.PrintMore
attribute [local go_sem] max2_int min2_int max_two min_two max_three min_three max_four min_four
set_option linter.unusedVariables false
set_option linter.unusedSimpArgs false

/-! ### chars_digits: function 27 -/
def dch (m : Nat) : UInt8 := if m < 10 then (48 + m).toUInt8 else (87 + m).toUInt8
def dgs (b : Nat) : Nat → Nat → List UInt8 → List UInt8
  | 0, _, acc => acc
  | f + 1, n, acc => if n / b = 0 then dch (n % b) :: acc else dgs b f (n / b) (dch (n % b) :: acc)
def chars_digits.f (a0 a1 : Int) : Option ByteArray := if 0 ≤ a0 ∧ a0 < 18446744073709551616 ∧ 10 ≤ a1 ∧ a1 ≤ 16 then some ⟨(dgs a1.toNat 20 a0.toNat []).toArray⟩ else none
def cellsD (i : Nat) (l : List UInt8) : Array Value := (List.replicate i (Value.int .u8 0) ++ l.map (fun c => Value.int .u8 (c.toNat : Int))).toArray
theorem cellsD_zero : (#[Value.int .u8 0, .int .u8 0, .int .u8 0, .int .u8 0, .int .u8 0, .int .u8 0, .int .u8 0, .int .u8 0, .int .u8 0, .int .u8 0, .int .u8 0, .int .u8 0, .int .u8 0, .int .u8 0, .int .u8 0, .int .u8 0, .int .u8 0, .int .u8 0, .int .u8 0, .int .u8 0] : Array Value) = cellsD 20 [] := rfl
theorem cellsD_get (i : Nat) (l : List UInt8) (j : Nat) (h : j < i) : (cellsD i l)[j]? = some (.int .u8 0) := by
  simp [cellsD, List.getElem?_append, h]
theorem cellsD_tail (i : Nat) (l : List UInt8) (j : Nat) (h : j < l.length) : (cellsD i l)[i + j]? = some (.int .u8 (l[j].toNat : Int)) := by
  simp [cellsD, List.getElem?_append, h]
theorem cellsD_set (i : Nat) (l : List UInt8) (c : UInt8) : (cellsD (i + 1) l).setIfInBounds i (.int .u8 (c.toNat : Int)) = cellsD i (c :: l) := by
  simp [cellsD, List.replicate_succ', List.set_append]
theorem dig_lt (n b : Nat) (i : Nat) (hb : 10 ≤ b) (h : n < b ^ (i + 1)) : n / b < b ^ i := by
  rw [Nat.div_lt_iff_lt_mul (by omega)]
  rwa [Nat.pow_succ] at h
theorem dig_top (n b : Nat) (hb : 10 ≤ b) (h : n < 18446744073709551616) : n < b ^ 20 := Nat.lt_of_lt_of_le h (Nat.le_trans (by decide) (Nat.pow_le_pow_left hb 20))
def dgR (b i n : Nat) (l : List UInt8) : List UInt8 := if i = 20 ∨ 0 < n then dgs b i n l else l
theorem dgR_step (b i n : Nat) (l : List UInt8) (hi : i < 20) (h : i + 1 = 20 ∨ 0 < n) : dgR b i (n / b) (dch (n % b) :: l) = dgR b (i + 1) n l := by
  unfold dgR
  rw [if_pos h]
  conv => rhs; unfold dgs
  by_cases hz : n / b = 0
  · rw [if_pos hz, if_neg (by omega)]
  · rw [if_neg hz, if_pos (.inr (Nat.pos_of_ne_zero hz))]
theorem dstr_get (j : Nat) (h : j < 16) : ((⟨#[48, 49, 50, 51, 52, 53, 54, 55, 56, 57, 97, 98, 99, 100, 101, 102]⟩ : ByteArray)[j]'h) = dch j := by
  have : j = 0 ∨ j = 1 ∨ j = 2 ∨ j = 3 ∨ j = 4 ∨ j = 5 ∨ j = 6 ∨ j = 7 ∨ j = 8 ∨ j = 9 ∨ j = 10 ∨ j = 11 ∨ j = 12 ∨ j = 13 ∨ j = 14 ∨ j = 15 := by omega
  rcases this with rfl | rfl | rfl | rfl | rfl | rfl | rfl | rfl | rfl | rfl | rfl | rfl | rfl | rfl | rfl | rfl <;> rfl
set_option maxHeartbeats 4000000 in
set_option maxRecDepth 100000 in
theorem chars_digits.calls (a0 a1 : Int) (r : ByteArray) (w : World) (h : chars_digits.f a0 a1 = some r) :
    Calls Tryd.prog 27 #[.int .u64 a0, .int .u64 a1] w fun e w' => e = .returned (.string r) ∧ Below w.heap.size w w' := by
  unfold chars_digits.f at h
  split at h
  case isFalse => cases h
  rename_i hb
  obtain ⟨h0, h1, hb0, hb1⟩ := hb
  obtain ⟨n, rfl⟩ := Int.eq_ofNat_of_zero_le h0
  obtain ⟨b, rfl⟩ := Int.eq_ofNat_of_zero_le (show (0 : Int) ≤ a1 by omega)
  have hr := Aside0.mk (Option.some.inj h)
  clear h
  have HN := Aside0.mk (show n < 18446744073709551616 by omega)
  clear h1 h0
  go_enter Tryd.func27, Tryd.ntmps27
  go_wp2
  go_loopw [0, 6] (fun vn vi wr => ∃ (m i : Nat) (l : List UInt8), vn = .int .u64 m ∧ vi = .int .i64 i ∧ i ≤ 20 ∧ Aside0 (m < 18446744073709551616) ∧ Aside0 (l.length + i = 20) ∧ Aside0 (dgR b i m l = dgs b 20 n []) ∧ Aside0 (m < b ^ i) ∧ Aside0 (wr.heap[w.heap.size]? = some (.cells (cellsD i l) 56 (0, 0))) ∧ Aside0 (Below w.heap.size w wr)) (fun _ vi _ => (intOf vi).toNat)
  case atStart => exact ⟨n, 20, [], rfl, rfl, by omega, HN, ⟨rfl⟩, ⟨by simp [dgR]⟩, ⟨dig_top n b (by omega) HN.out⟩, ⟨by rw [← cellsD_zero]; exact blk_new _ _⟩, ⟨below_alloc (Below.refl _ _) _⟩⟩
  case round =>
    obtain ⟨m, i, l, rfl, rfl, hi, Hm, HL, HR, HM, HC, HB⟩ := hrel
    by_cases hgo : i = 20 ∨ 0 < m
    · have hi1 : 1 ≤ i := by
        rcases hgo with rfl | hgo
        · omega
        · rcases Nat.eq_zero_or_pos i with rfl | hp
          · have := HM.out; simp at this; omega
          · omega
      have HG := Aside0.mk hgo
      clear hgo
      have hix : ((i : Int) - 1).toNat = i - 1 := by omega
      have hmb : (m : Int) % (b : Int) < 16 := by have := Int.emod_lt_of_pos (m : Int) (show (0 : Int) < b by omega); omega
      have hmn : m % b < 16 := by have := Nat.mod_lt m (show 0 < b by omega); omega
      have hw : IntKind.u64.wrap ((m : Int) / (b : Int)) = ((m / b : Nat) : Int) := by
        have h1 := Hm.out
        have h2 : m / b ≤ m := Nat.div_le_self m b
        rw [← Int.natCast_ediv]
        generalize m / b = q at h2 ⊢
        exact IntWalk.u64_in _ (by omega)
      have hc : wr.cell? ⟨w.heap.size, i - 1, none⟩ = some (.int .u8 0) := by rw [blk_cell HC.out (i - 1)]; exact cellsD_get i l (i - 1) (by omega)
      have hf : wr.frozen? ⟨w.heap.size, i - 1, none⟩ = false := blk_frozen HC.out (i - 1)
      have hfin : ∃ (m_1 i_1 : Nat) (l' : List UInt8), Value.int IntKind.u64 ((m / b : Nat) : Int) = Value.int IntKind.u64 ↑m_1 ∧ Value.int IntKind.i64 ((i : Int) - 1) = Value.int IntKind.i64 ↑i_1 ∧ i_1 ≤ 20 ∧ Aside0 (m_1 < 18446744073709551616) ∧ Aside0 (l'.length + i_1 = 20) ∧ Aside0 (dgR b i_1 m_1 l' = dgs b 20 n []) ∧ Aside0 (m_1 < b ^ i_1) ∧
          Aside0 ((wr.setCell ⟨w.heap.size, i - 1, none⟩ (.int .u8 ((⟨#[48, 49, 50, 51, 52, 53, 54, 55, 56, 57, 97, 98, 99, 100, 101, 102]⟩ : ByteArray)[m % b].toNat : Int))).heap[w.heap.size]? = some (.cells (cellsD i_1 l') 56)) ∧ Aside0 (Below w.heap.size w (wr.setCell ⟨w.heap.size, i - 1, none⟩ (.int .u8 ((⟨#[48, 49, 50, 51, 52, 53, 54, 55, 56, 57, 97, 98, 99, 100, 101, 102]⟩ : ByteArray)[m % b].toNat : Int)))) := by
        obtain ⟨i, rfl⟩ : ∃ j, i = j + 1 := ⟨i - 1, by omega⟩
        refine ⟨m / b, i, dch (m % b) :: l, rfl, by congr 1; omega, by omega, ⟨Nat.lt_of_le_of_lt (Nat.div_le_self _ _) Hm.out⟩, ⟨by have := HL.out; simp; omega⟩, ⟨by rw [dgR_step b i m l (by omega) HG.out]; exact HR.out⟩, ⟨dig_lt m b i (by omega) HM.out⟩, ⟨?_⟩, ⟨below_set HB.out (Nat.le_refl _)⟩⟩
        refine blk_put HC.out i _ ?_
        rw [← cellsD_set]
        congr 2
        rw [dstr_get (m % b) hmn]
      have HF := Aside0.mk hfin
      clear hfin
      by_cases h20 : i = 20
      · have t1 : ((i : Int) == 20) = true := beq_iff_eq.2 (by omega)
        clear h20
        go_wp2
        exact ⟨HF.out, by simp [intOf]; omega⟩
      · have t1 : ((i : Int) == 20) = false := beq_eq_false_iff_ne.2 (by omega)
        have t2 : decide (0 < m) = true := decide_eq_true (by have := HG.out; omega)
        clear h20
        go_wp2
        exact ⟨HF.out, by simp [intOf]; omega⟩
    · have t1 : ((i : Int) == 20) = false := beq_eq_false_iff_ne.2 (by omega)
      have t2 : decide (0 < m) = false := decide_eq_false (by omega)
      have HG := Aside0.mk hgo
      clear hgo
      have hal : Tryd.prog.arrayLen 56 = 20 := by kernel_rfl
      have hne : ¬ (20 = i) := by have := HG.out; omega
      have hsl : ∀ W : World, (Instr.sliceAt 56 (.pointer (some ⟨w.heap.size, 0, none⟩)) (some (.int .i64 (i : Int))) none none).run Tryd.prog W = .ok (.slice (some ⟨w.heap.size, i, none⟩) (20 - i) (20 - i)) W := fun W => by
        have := run_sliceAt_array_l (P := Tryd.prog) (w := W) (t := 56) (a := ⟨w.heap.size, 0, none⟩) (by kernel_rfl) .i64 (i : Int) (by omega) (by rw [hal]; omega)
        rw [this, hal]
        have hsz : (sizeOf (Tryd.prog.elem 56)).run Tryd.prog W = .ok 1 W := by kernel_rfl
        rw [hsz]
        simp [Result.andThen, slicedAt, hne, Addr.add]
        omega
      have hcv : (convert 50 9 (.slice (some ⟨w.heap.size, i, none⟩) (20 - i) (20 - i))).run Tryd.prog wr = .ok (.string ⟨l.toArray⟩) wr := by
        have := run_convert_bytes_back (P := Tryd.prog) wr 50 9 5 ⟨w.heap.size, i, none⟩ (20 - i) l (by kernel_rfl) (by kernel_rfl) (by kernel_rfl) (fun j hj => by
          rw [show (⟨w.heap.size, i, none⟩ : Addr).add j = ⟨w.heap.size, i + j, none⟩ from by simp [Addr.add]]
          rw [blk_cell HC.out (i + j)]
          exact cellsD_tail i l j hj)
        rw [show l.length = 20 - i by have := HL.out; omega] at this
        exact this
      have hres : Value.string ⟨l.toArray⟩ = Value.string r := by
        rw [← hr.out]
        have := HR.out
        rw [dgR, if_neg HG.out] at this
        rw [this]
        simp
      have HRES := Aside0.mk hres
      clear hal hne hres
      go_wp2
      go_ret
      exact ⟨congrArg (fun v => Ending.returned v) HRES.out, HB.out⟩

/-! ### chars_Lower: function 16 -/
def lowc (c : UInt8) : UInt8 := if 65 ≤ c.toNat ∧ c.toNat ≤ 90 then c + 32 else c
def lowB (s : ByteArray) : ByteArray := ⟨(s.data.toList.map lowc).toArray⟩
def chars_Lower.f (a0 : ByteArray) : Option ByteArray := if a0.size ≤ 140737488355328 then some (lowB a0) else none
theorem low_bits (x : UInt8) (h1 : 65 ≤ x.toNat) (h2 : x.toNat ≤ 90) : bits BinOp.or IntKind.u8 (x.toNat : Int) 32 = ((lowc x).toNat : Int) := by
  have h : ∀ n : Fin 26, bits BinOp.or IntKind.u8 (((n.val + 65 : Nat) : Int)) 32 = (((n.val + 65).toUInt8 + 32).toNat : Int) := by decide +kernel
  have := h ⟨x.toNat - 65, by omega⟩
  simp only [show x.toNat - 65 + 65 = x.toNat by omega] at this
  rw [this, lowc, if_pos ⟨h1, h2⟩]
  simp
theorem bytesWorld_below (w : World) (e : TypeId) (s : ByteArray) : Below w.heap.size w (Lib.bytesWorld w e s) :=
  ⟨rfl, rfl, rfl, by rw [Lib.bytesWorld_size]; omega, fun b hb => Lib.bytesWorld_at_old w e s b hb⟩
def lowAt (s : ByteArray) (k j : Nat) : UInt8 := if j < k then lowc (s.data.toList.getD j 0) else s.data.toList.getD j 0
set_option maxHeartbeats 4000000 in
set_option maxRecDepth 100000 in
theorem chars_Lower.calls (a0 : ByteArray) (r : ByteArray) (w : World) (h : chars_Lower.f a0 = some r) :
    Calls Tryd.prog 16 #[.string a0] w fun e w' => e = .returned (.string r) ∧ Below w.heap.size w w' := by
  unfold chars_Lower.f at h
  split at h
  case isFalse => cases h
  rename_i hsz
  have hr := Aside0.mk (Option.some.inj h)
  clear h
  have hcv := Lib.run_convert_string_bytes (P := Tryd.prog) w 9 50 5 a0 Tryd.underlying9 Tryd.underlying50 Tryd.underlying5
  have hb0 := bytesWorld_below w 5 a0
  have hc0 := Lib.bytesWorld_cell w 5 a0
  have hf0 : ∀ j, j < a0.size → (Lib.bytesWorld w 5 a0).frozen? ⟨w.heap.size, j, none⟩ = false := fun j hj => by
    have hs : a0.size ≤ (Lib.bytesCells w 5 a0).size := by simp [Lib.bytesCells]
    simp only [World.frozen?, Lib.bytesWorld_at_new]
    simp
    omega
  generalize Lib.bytesWorld w 5 a0 = W at hcv hb0 hc0 hf0
  generalize hC : grownCap w a0.size 0 5 = C at hcv
  clear hC
  have HB0 := Aside0.mk hb0
  have HC0 := Aside0.mk hc0
  have HF0 := Aside0.mk hf0
  clear hb0 hc0 hf0
  go_enter Tryd.func16, Tryd.ntmps16
  go_wp2
  go_loopw [10] (fun vi wr => ∃ k : Nat, vi = .int .i64 k ∧ k ≤ a0.size ∧ Aside0 (∀ j, j < a0.size → wr.cell? ⟨w.heap.size, j, none⟩ = some (.int .u8 ((lowAt a0 k j).toNat : Int))) ∧ Aside0 (∀ j, j < a0.size → wr.frozen? ⟨w.heap.size, j, none⟩ = false) ∧ Aside0 (Below w.heap.size w wr)) (fun vi _ => a0.size - (intOf vi).toNat)
  case atStart => exact ⟨0, rfl, Nat.zero_le _, ⟨fun j hj => by rw [HC0.out j hj]; simp [lowAt]⟩, HF0, HB0⟩
  case round =>
    obtain ⟨k, rfl, hk, HC, HF, HB⟩ := hrel
    by_cases hlt : k < a0.size
    · have hc := HC.out k hlt
      have hf := HF.out k hlt
      have hkk : lowAt a0 k k = a0.data.toList.getD k 0 := by simp [lowAt]
      rw [hkk] at hc
      generalize hx : a0.data.toList.getD k 0 = x at hc
      have HX := Aside0.mk hx
      have hxl := x.toNat_lt
      clear hx hkk
      have hend : ∀ v : UInt8, v = lowc x → ∃ k' : Nat, Value.int .i64 ((k : Int) + 1) = Value.int .i64 (k' : Int) ∧ k' ≤ a0.size ∧ Aside0 (∀ j, j < a0.size → (wr.setCell ⟨w.heap.size, k, none⟩ (.int .u8 (v.toNat : Int))).cell? ⟨w.heap.size, j, none⟩ = some (.int .u8 ((lowAt a0 k' j).toNat : Int))) ∧ Aside0 (∀ j, j < a0.size → (wr.setCell ⟨w.heap.size, k, none⟩ (.int .u8 (v.toNat : Int))).frozen? ⟨w.heap.size, j, none⟩ = false) ∧ Aside0 (Below w.heap.size w (wr.setCell ⟨w.heap.size, k, none⟩ (.int .u8 (v.toNat : Int)))) := by
        rintro v rfl
        refine ⟨k + 1, by congr 1, by omega, ⟨fun j hj => ?_⟩, ⟨fun j hj => by rw [World.frozen?_setCell]; exact HF.out j hj⟩, ⟨below_set HB.out (Nat.le_refl _)⟩⟩
        by_cases hjk : j = k
        · subst hjk
          rw [World.cell?_setCell_same _ _ _ hc]
          simp only [lowAt]
          rw [if_pos (by omega), HX.out]
        · rw [World.cell?_setCell_other _ _ _ _ (by simp <;> omega), HC.out j hj]
          simp [lowAt, show (j < k + 1) = (j < k) by rw [eq_iff_iff]; omega]
      have HE := Aside0.mk hend
      clear hend
      by_cases h1 : 65 ≤ x.toNat ∧ x.toNat ≤ 90
      · obtain ⟨h1, h2⟩ := h1
        have HB2 := low_bits x h1 h2
        go_wp2
        exact ⟨HE.out _ rfl, by simp [intOf]; omega⟩
      · have hend2 : ∃ k' : Nat, Value.int .i64 ((k : Int) + 1) = Value.int .i64 (k' : Int) ∧ k' ≤ a0.size ∧ Aside0 (∀ j, j < a0.size → wr.cell? ⟨w.heap.size, j, none⟩ = some (.int .u8 ((lowAt a0 k' j).toNat : Int))) ∧ Aside0 (∀ j, j < a0.size → wr.frozen? ⟨w.heap.size, j, none⟩ = false) ∧ Aside0 (Below w.heap.size w wr) := by
          refine ⟨k + 1, by congr 1, by omega, ⟨fun j hj => ?_⟩, HF, HB⟩
          by_cases hjk : j = k
          · subst hjk
            rw [hc]
            simp only [lowAt]
            rw [if_pos (by omega), HX.out, lowc, if_neg h1]
          · rw [HC.out j hj]
            simp [lowAt, show (j < k + 1) = (j < k) by rw [eq_iff_iff]; omega]
        have HE2 := Aside0.mk hend2
        clear hend2
        by_cases h3 : 65 ≤ x.toNat
        · have h4 : ¬ x.toNat ≤ 90 := fun h => h1 ⟨h3, h⟩
          clear h1
          go_wp2
          exact ⟨HE2.out, by simp [intOf]; omega⟩
        · clear h1
          go_wp2
          exact ⟨HE2.out, by simp [intOf]; omega⟩
    · have hcv2 : (convert 50 9 (.slice (some ⟨w.heap.size, 0, none⟩) a0.size C)).run Tryd.prog wr = .ok (.string r) wr := by
        have := run_convert_bytes_back (P := Tryd.prog) wr 50 9 5 ⟨w.heap.size, 0, none⟩ C (a0.data.toList.map lowc) Tryd.underlying50 Tryd.underlying5 Tryd.underlying9 (fun j hj => by
          have hj' : j < a0.size := by simpa using hj
          rw [show (⟨w.heap.size, 0, none⟩ : Addr).add j = ⟨w.heap.size, j, none⟩ from by simp [Addr.add]; omega, HC.out j hj']
          simp [lowAt, show j < k by omega, List.getD, List.getElem?_eq_getElem, hj'])
        rw [show (a0.data.toList.map lowc).length = a0.size by simp] at this
        rw [this, ← hr.out]
        rfl
      have HB := HB
      go_wp2
      go_ret
      exact ⟨rfl, HB.out⟩

end Go.Proofs.YthfphoojdhgjoaaDoor.Q
