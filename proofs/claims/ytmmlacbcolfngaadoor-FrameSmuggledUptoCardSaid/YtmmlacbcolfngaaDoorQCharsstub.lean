/- What Go functions that a statement reaches come to, printed by a program of this session over the kit's printer; for all inputs at which the printed Lean function answers. -/
import Derived.Test.YtmmlacbcolfngaaDoorQ0
import Derived.Laws.IdiomStrings
import Derived.Lib.ConvBytes
namespace Go.Proofs.YtmmlacbcolfngaaDoor.Q
open Go.RowKit Go.Proofs.YtmmlacbcolfngaaDoorW.PrintWords Go.Proofs.YtmmlacbcolfngaaDoorW.PrintLast Go.Proofs.YtmmlacbcolfngaaDoorW.PrintMore
attribute [local go_sem] max2_int min2_int max_two min_two max_three min_three max_four min_four
set_option linter.unusedVariables false
set_option linter.unusedSimpArgs false

/-! ### chars_Lower: function 75 -/
def lowc (c : UInt8) : UInt8 := if 65 ≤ c.toNat ∧ c.toNat ≤ 90 then c + 32 else c
def lowB (s : ByteArray) : ByteArray := ⟨(s.data.toList.map lowc).toArray⟩
def chars_Lower.f (a0 : ByteArray) : Option ByteArray := if a0.size ≤ 140737488355328 then some (lowB a0) else none
theorem low_bits (x : UInt8) (h1 : 65 ≤ x.toNat) (h2 : x.toNat ≤ 90) : bits BinOp.or IntKind.u8 (x.toNat : Int) 32 = ((lowc x).toNat : Int) := by
  have h : ∀ n : Fin 26, bits BinOp.or IntKind.u8 (((n.val + 65 : Nat) : Int)) 32 = (((n.val + 65).toUInt8 + 32).toNat : Int) := by decide +kernel
  have := h ⟨x.toNat - 65, by omega⟩
  simp only [show x.toNat - 65 + 65 = x.toNat by omega] at this
  rw [this, lowc, if_pos ⟨h1, h2⟩]
  simp
theorem bytesWorld_below (w : World) (e : TypeId) (s : ByteArray) : Below w.heap.size w (Lib.bytesWorld w e s) :=
  ⟨rfl, rfl, rfl, by rw [Lib.bytesWorld_size]; omega, fun b hb => Lib.bytesWorld_at_old w e s b hb⟩
def lowAt (s : ByteArray) (k j : Nat) : UInt8 := if j < k then lowc (s.data.toList.getD j 0) else s.data.toList.getD j 0
set_option maxHeartbeats 4000000 in
set_option maxRecDepth 100000 in
theorem chars_Lower.calls (a0 : ByteArray) (r : ByteArray) (w : World) (h : chars_Lower.f a0 = some r) :
    Calls Tryd.prog 75 #[.string a0] w fun e w' => e = .returned (.string r) ∧ Below w.heap.size w w' := by
  unfold chars_Lower.f at h
  split at h
  case isFalse => cases h
  rename_i hsz
  have hr := Aside0.mk (Option.some.inj h)
  clear h
  have hcv := Lib.run_convert_string_bytes (P := Tryd.prog) w 9 27 5 a0 Tryd.underlying9 Tryd.underlying27 Tryd.underlying5
  have hb0 := bytesWorld_below w 5 a0
  have hc0 := Lib.bytesWorld_cell w 5 a0
  have hf0 : ∀ j, j < a0.size → (Lib.bytesWorld w 5 a0).frozen? ⟨w.heap.size, j, none⟩ = false := fun j hj => by
    have hs : a0.size ≤ (Lib.bytesCells w 5 a0).size := by simp [Lib.bytesCells]
    simp only [World.frozen?, Lib.bytesWorld_at_new]
    simp
    omega
  generalize Lib.bytesWorld w 5 a0 = W at hcv hb0 hc0 hf0
  generalize hC : grownCap w a0.size 0 5 = C at hcv
  clear hC
  have HB0 := Aside0.mk hb0
  have HC0 := Aside0.mk hc0
  have HF0 := Aside0.mk hf0
  clear hb0 hc0 hf0
  go_enter Tryd.func75, Tryd.ntmps75
  go_wp2
  go_loopw [10] (fun vi wr => ∃ k : Nat, vi = .int .i64 k ∧ k ≤ a0.size ∧ Aside0 (∀ j, j < a0.size → wr.cell? ⟨w.heap.size, j, none⟩ = some (.int .u8 ((lowAt a0 k j).toNat : Int))) ∧ Aside0 (∀ j, j < a0.size → wr.frozen? ⟨w.heap.size, j, none⟩ = false) ∧ Aside0 (Below w.heap.size w wr)) (fun vi _ => a0.size - (intOf vi).toNat)
  case atStart => exact ⟨0, rfl, Nat.zero_le _, ⟨fun j hj => by rw [HC0.out j hj]; simp [lowAt]⟩, HF0, HB0⟩
  case round =>
    obtain ⟨k, rfl, hk, HC, HF, HB⟩ := hrel
    by_cases hlt : k < a0.size
    · have hc := HC.out k hlt
      have hf := HF.out k hlt
      have hkk : lowAt a0 k k = a0.data.toList.getD k 0 := by simp [lowAt]
      rw [hkk] at hc
      generalize hx : a0.data.toList.getD k 0 = x at hc
      have HX := Aside0.mk hx
      have hxl := x.toNat_lt
      clear hx hkk
      have hend : ∀ v : UInt8, v = lowc x → ∃ k' : Nat, Value.int .i64 ((k : Int) + 1) = Value.int .i64 (k' : Int) ∧ k' ≤ a0.size ∧ Aside0 (∀ j, j < a0.size → (wr.setCell ⟨w.heap.size, k, none⟩ (.int .u8 (v.toNat : Int))).cell? ⟨w.heap.size, j, none⟩ = some (.int .u8 ((lowAt a0 k' j).toNat : Int))) ∧ Aside0 (∀ j, j < a0.size → (wr.setCell ⟨w.heap.size, k, none⟩ (.int .u8 (v.toNat : Int))).frozen? ⟨w.heap.size, j, none⟩ = false) ∧ Aside0 (Below w.heap.size w (wr.setCell ⟨w.heap.size, k, none⟩ (.int .u8 (v.toNat : Int)))) := by
        rintro v rfl
        refine ⟨k + 1, by congr 1, by omega, ⟨fun j hj => ?_⟩, ⟨fun j hj => by rw [World.frozen?_setCell]; exact HF.out j hj⟩, ⟨below_set HB.out (Nat.le_refl _)⟩⟩
        by_cases hjk : j = k
        · subst hjk
          rw [World.cell?_setCell_same _ _ _ hc]
          simp only [lowAt]
          rw [if_pos (by omega), HX.out]
        · rw [World.cell?_setCell_other _ _ _ _ (by simp <;> omega), HC.out j hj]
          simp [lowAt, show (j < k + 1) = (j < k) by rw [eq_iff_iff]; omega]
      have HE := Aside0.mk hend
      clear hend
      by_cases h1 : 65 ≤ x.toNat ∧ x.toNat ≤ 90
      · obtain ⟨h1, h2⟩ := h1
        have HB2 := low_bits x h1 h2
        go_wp2
        exact ⟨HE.out _ rfl, by simp [intOf]; omega⟩
      · have hend2 : ∃ k' : Nat, Value.int .i64 ((k : Int) + 1) = Value.int .i64 (k' : Int) ∧ k' ≤ a0.size ∧ Aside0 (∀ j, j < a0.size → wr.cell? ⟨w.heap.size, j, none⟩ = some (.int .u8 ((lowAt a0 k' j).toNat : Int))) ∧ Aside0 (∀ j, j < a0.size → wr.frozen? ⟨w.heap.size, j, none⟩ = false) ∧ Aside0 (Below w.heap.size w wr) := by
          refine ⟨k + 1, by congr 1, by omega, ⟨fun j hj => ?_⟩, HF, HB⟩
          by_cases hjk : j = k
          · subst hjk
            rw [hc]
            simp only [lowAt]
            rw [if_pos (by omega), HX.out, lowc, if_neg h1]
          · rw [HC.out j hj]
            simp [lowAt, show (j < k + 1) = (j < k) by rw [eq_iff_iff]; omega]
        have HE2 := Aside0.mk hend2
        clear hend2
        by_cases h3 : 65 ≤ x.toNat
        · have h4 : ¬ x.toNat ≤ 90 := fun h => h1 ⟨h3, h⟩
          clear h1
          go_wp2
          exact ⟨HE2.out, by simp [intOf]; omega⟩
        · clear h1
          go_wp2
          exact ⟨HE2.out, by simp [intOf]; omega⟩
    · have hcv2 : (convert 27 9 (.slice (some ⟨w.heap.size, 0, none⟩) a0.size C)).run Tryd.prog wr = .ok (.string r) wr := by
        have := run_convert_bytes_back (P := Tryd.prog) wr 27 9 5 ⟨w.heap.size, 0, none⟩ C (a0.data.toList.map lowc) Tryd.underlying27 Tryd.underlying5 Tryd.underlying9 (fun j hj => by
          have hj' : j < a0.size := by simpa using hj
          rw [show (⟨w.heap.size, 0, none⟩ : Addr).add j = ⟨w.heap.size, j, none⟩ from by simp [Addr.add]; omega, HC.out j hj']
          simp [lowAt, show j < k by omega, List.getD, List.getElem?_eq_getElem, hj'])
        rw [show (a0.data.toList.map lowc).length = a0.size by simp] at this
        rw [this, ← hr.out]
        rfl
      have HB := HB
      go_wp2
      go_ret
      exact ⟨rfl, HB.out⟩

end Go.Proofs.YtmmlacbcolfngaaDoor.Q
