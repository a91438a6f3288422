/- What the law WriteFields needs, part 4: the runner over a plain memory, words, the functions that it reaches, each by its own contract; for the inputs that each theorem names. -/
import Derived.Test.YtdmbgbennlnpcaaDoorWriteFieldsP3
import Derived.Test.YtdmbgbennlnpcaaDoorWriteFieldsQ0
import Derived.Lib.LaidU8
import Derived.MakeChecks
import Derived.LaidHandle
import Derived.Test.YtdmbgbennlnpcaaDoorWriteFieldsP2
namespace Go.Proofs.YtdmbgbennlnpcaaDoor.Q
open Go Go.Proofs.YtdmbgbennlnpcaaDoorAbs Go.Proofs Go.RowKit Go.Proofs.YtdmbgbennlnpcaaDoorW.PrintWords
set_option linter.unusedVariables false
set_option linter.unusedSimpArgs false
abbrev PowIs (w : World) : Prop := Lib.TabIs Tryd.prog w "internal/strconv.uint64pow10" .u64 Lib.pow10Tab
theorem startP {w : World} (hT : PowIs w) (hG : 6 < w.heap.size) : Go.Proofs.YtdmbgbennlnpcaaDoorAbs.Start Tryd.prog (Ren.start 6) (St.start 6 glP whP) w := by
  have hg : Tryd.prog.globalNamed "internal/strconv.uint64pow10" = some 1 := by kernel_rfl
  have hb : ∃ ty fr, w.heap[1]? = some (.cells (Lib.pow10Tab.map (Value.int .u64)).toArray ty fr) := by
    unfold PowIs Lib.TabIs World.var? at hT
    rw [hg, Option.bind_some] at hT
    split at hT
    · rename_i cs a b e
      cases hT
      exact ⟨a, b, e⟩
    · cases hT
  have st0 : Go.Proofs.YtdmbgbennlnpcaaDoorAbs.Start Tryd.prog (Ren.start Tryd.prog.globals.size) (St.start Tryd.prog.globals.size glP whP) w := by
    refine start0w glP whP (by rw [nglob]; exact hG) (fun g cs hg hgl j v hj => ?_) (fun g cs hg hgl hw => ?_)
    · unfold glP at hgl
      split at hgl
      · cases hgl
        obtain ⟨ty, fr, e⟩ := hb
        refine ⟨v, ?_, .leaf _ ?_⟩
        · simp only [World.cell?, e]
          rw [List.getElem?_toArray]
          exact hj
        · have : (Lib.pow10Tab.map (Value.int .u64)).all leaf = true := by decide
          rw [List.all_eq_true] at this
          exact this v (List.mem_of_getElem? hj)
      · cases hgl
    · unfold glP at hgl
      split at hgl
      · cases hgl; exact hb
      · cases hgl
  rwa [nglob] at st0
def toF (l : List S50) : List Fld := l.map fun x => (x.f0, x.f1)
theorem toF_len (l : List S50) : (toF l).length = l.length := by simp [toF]
theorem fldv_in : ∀ (l : List S50) (j : Nat) (v : Value), (fldv (toF l))[j]? = some v → ∃ p, l[j / 2]? = some p ∧ [Value.string p.f0, Value.string p.f1][j % 2]? = some v
  | [], j, v, h => by simp [fldv, toF] at h
  | x :: l, 0, v, h => ⟨x, rfl, h⟩
  | x :: l, 1, v, h => ⟨x, rfl, h⟩
  | x :: l, j + 2, v, h => by
    have h' : (fldv (toF l))[j]? = some v := h
    obtain ⟨p, h1, h2⟩ := fldv_in l j v h'
    refine ⟨p, ?_, by rw [Nat.add_mod_right]; exact h2⟩
    rw [show (j + 2) / 2 = j / 2 + 1 by omega]
    simpa using h1
theorem row_fld {w : World} {ρ : Ren} {A : Option Addr} {l : List S50} (h : Kd.C k50 w A l.length l) (hp : 0 < l.length) : ∃ ad, A = some ad ∧ ∀ (j : Nat) (v : Value), (fldv (toF l))[j]? = some v → ∃ v', w.cell? (ad.add j) = some v' ∧ VR ρ v v' := by
  obtain ⟨ad, e, hcell⟩ := h.2.2 hp
  refine ⟨ad, e, fun j v hj => ?_⟩
  obtain ⟨p, h1, h2⟩ := fldv_in l j v hj
  obtain ⟨c, _, hK, hc⟩ := hcell (j / 2) p h1
  have ec := k50_open hK
  subst ec
  refine ⟨v, ?_, .leaf _ ?_⟩
  · have := hc (j % 2) v h2
    rwa [show j / 2 * k50.sz + j % 2 = j from Nat.div_add_mod' j 2] at this
  · rcases Nat.mod_two_eq_zero_or_one j with q | q <;> (rw [q] at h2; cases h2; rfl)
theorem fldv_nil (l : List S50) : l.length = 0 ↔ fldv (toF l) = [] := by
  cases l with
  | nil => simp [fldv, toF]
  | cons x l => simp [fldv, toF]
def FOk (l : List S50) : Prop := l.length ≤ 1048576 ∧ ∀ f ∈ toF l, f.1.size ≤ 1048576 ∧ f.2.size ≤ 1048576
theorem their_sf {S : St} {l : List S50} {n : Nat} (hn : n = S.next) : SF (S.theirs (fldv (toF l))) (.slice (some ⟨n, 0, some 0⟩) l.length (UNK + 2)) (toF l) :=
  .inl ⟨n, by rw [toF_len], by subst hn; simp [St.theirs], by subst hn; exact Nat.lt_succ_self _⟩
theorem their_kept (S : St) (cs : List Value) : Kept S (S.theirs cs) none := ⟨Nat.le_succ _, fun i hi _ => by simp only [St.theirs]; rw [if_neg (by omega)]⟩
theorem start_pg : PG (St.start 6 glP whP) := ⟨by decide, rfl⟩
theorem turnstilelaw10_WriteApart.calls (m t : ByteArray) (n : Int) (A0 : Option Addr) (c0 : Nat) (l0 : List S50) (m' t' : ByteArray) (n' : Int) (A1 : Option Addr) (c1 : Nat) (l1 : List S50) (w : World) (hr0 : Kd.C k50 w A0 l0.length l0) (hc0 : l0.length ≤ c0) (hr1 : Kd.C k50 w A1 l1.length l1) (hc1 : l1.length ≤ c1)
    (hT : PowIs w) (hG : 6 < w.heap.size) (hp : (m.size ≤ 1048576 ∧ t.size ≤ 1048576 ∧ FOk l0) ∧ (m'.size ≤ 1048576 ∧ t'.size ≤ 1048576 ∧ FOk l1)) :
    Calls Tryd.prog 4 #[.agg #[.string m, .string t, .int .i64 n, .slice A0 l0.length c0], .agg #[.string m', .string t', .int .i64 n', .slice A1 l1.length c1]] w fun e w' => e = .returned (.bool true) ∧ Below w.heap.size w w' := by
  have st0 := startP hT hG
  obtain ⟨ρ1, hle1, st1, hv1⟩ := st0.row 2 (fldv (toF l0)) A0 l0.length c0 hc0 (fldv_nil l0) (row_fld hr0)
  obtain ⟨ρ2, hle2, st2, hv2⟩ := st1.row 2 (fldv (toF l1)) A1 l1.length c1 hc1 (fldv_nil l1) (row_fld hr1)
  obtain ⟨⟨p1, p2, p3, p4⟩, p5, p6, p7, p8⟩ := hp
  have k1 := their_kept (St.start 6 glP whP) (fldv (toF l0))
  have k2 := their_kept ((St.start 6 glP whP).theirs (fldv (toF l0))) (fldv (toF l1))
  refine st2.law prims1_sim mixed rfl (xs := #[.agg #[.string m, .string t, .int .i64 n, .slice (some ⟨7, 0, some 0⟩) l0.length (UNK + 2)], .agg #[.string m', .string t', .int .i64 n', .slice (some ⟨8, 0, some 0⟩) l1.length (UNK + 2)]])
    (VRL.cons (VR.agg' (VRL.cons (VR.scalar rfl) (VRL.cons (VR.scalar rfl) (VRL.cons (VR.scalar rfl) (VRL.cons (hv1.mono hle2) (VRL.nil _)))))) (VRL.cons (VR.agg' (VRL.cons (VR.scalar rfl) (VRL.cons (VR.scalar rfl) (VRL.cons (VR.scalar rfl) (VRL.cons hv2 (VRL.nil _)))))) (VRL.nil _))) ?_
  refine apart_walk prims1_ok ((start_pg.kept k1).kept k2) (l := toF l0) (l' := toF l1) ((their_sf rfl).kept k2) p1 p2 (by rw [toF_len]; exact p3) p4 (their_sf rfl) p5 p6 (by rw [toF_len]; exact p7) p8 ?_
  intro S'; rfl
end Go.Proofs.YtdmbgbennlnpcaaDoor.Q
namespace Go.Proofs.YtdmbgbennlnpcaaDoor.Q
open Go Go.Proofs.YtdmbgbennlnpcaaDoorAbs Go.Proofs
set_option linter.unusedVariables false
set_option linter.unusedSimpArgs false
set_option maxRecDepth 100000
set_option maxHeartbeats 4000000
attribute [local irreducible] Go.Proofs.YtdmbgbennlnpcaaDoorAbs.O Go.Proofs.YtdmbgbennlnpcaaDoorAbs.W Go.Proofs.YtdmbgbennlnpcaaDoorAbs.C Go.Proofs.YtdmbgbennlnpcaaDoorAbs.OK Go.Proofs.YtdmbgbennlnpcaaDoorAbs.OKF Go.Proofs.YtdmbgbennlnpcaaDoorAbs.OKT Go.Proofs.YtdmbgbennlnpcaaDoorAbs.then_ Go.Proofs.YtdmbgbennlnpcaaDoorAbs.inBlock_ Go.Proofs.YtdmbgbennlnpcaaDoorAbs.bodyQ Go.Proofs.YtdmbgbennlnpcaaDoorAbs.Cont
section
variable {I : Prims} {S S0 : St} {Q : Value → St → Prop} {e : Env}
end
end Go.Proofs.YtdmbgbennlnpcaaDoor.Q
namespace Go.Proofs.YtdmbgbennlnpcaaDoor.Q
open Go Go.Proofs.YtdmbgbennlnpcaaDoorAbs Go.Proofs
set_option linter.unusedVariables false
set_option linter.unusedSimpArgs false
set_option maxRecDepth 100000
set_option maxHeartbeats 4000000
attribute [local irreducible] Go.Proofs.YtdmbgbennlnpcaaDoorAbs.O Go.Proofs.YtdmbgbennlnpcaaDoorAbs.W Go.Proofs.YtdmbgbennlnpcaaDoorAbs.C Go.Proofs.YtdmbgbennlnpcaaDoorAbs.OK Go.Proofs.YtdmbgbennlnpcaaDoorAbs.OKF Go.Proofs.YtdmbgbennlnpcaaDoorAbs.OKT Go.Proofs.YtdmbgbennlnpcaaDoorAbs.then_ Go.Proofs.YtdmbgbennlnpcaaDoorAbs.inBlock_ Go.Proofs.YtdmbgbennlnpcaaDoorAbs.bodyQ Go.Proofs.YtdmbgbennlnpcaaDoorAbs.Cont
section
variable {P : Program} {I : Prims} {ops : Array Oper} {r : List Oper} {Q : Env → St → Prop} {e : Env} {S : St} {dst : Option Tmp} {ty : TypeId} {pos : String} {after : Array Edge}
end
section
variable {I : Prims} {S S0 : St} {c : Int} {Q : Value → St → Prop} {e : Env}
end
end Go.Proofs.YtdmbgbennlnpcaaDoor.Q
namespace Go.Proofs.YtdmbgbennlnpcaaDoor.Q
open Go Go.Proofs.YtdmbgbennlnpcaaDoorAbs Go.Proofs
set_option linter.unusedVariables false
set_option linter.unusedSimpArgs false
set_option maxRecDepth 100000
set_option maxHeartbeats 4000000
attribute [local irreducible] Go.Proofs.YtdmbgbennlnpcaaDoorAbs.O Go.Proofs.YtdmbgbennlnpcaaDoorAbs.W Go.Proofs.YtdmbgbennlnpcaaDoorAbs.C Go.Proofs.YtdmbgbennlnpcaaDoorAbs.OK Go.Proofs.YtdmbgbennlnpcaaDoorAbs.OKF Go.Proofs.YtdmbgbennlnpcaaDoorAbs.OKT Go.Proofs.YtdmbgbennlnpcaaDoorAbs.then_ Go.Proofs.YtdmbgbennlnpcaaDoorAbs.inBlock_ Go.Proofs.YtdmbgbennlnpcaaDoorAbs.bodyQ Go.Proofs.YtdmbgbennlnpcaaDoorAbs.Cont
theorem RF.upd {S : St} {v : Value} {l : List Fld} {i : Nat} {B : Blk} (h : RF S v l) (hne : ∀ b, blkOf v = some b → b ≠ i) : RF (S.upd i B) v l := by
  obtain ⟨a, c, e, h1⟩ := h
  refine ⟨a, c, e, fun j hj => ?_⟩
  obtain ⟨b, L, e1, e2, e3⟩ := h1 j hj
  refine ⟨b, L, e1, ?_, e3⟩
  rw [St.get_upd_ne _ _ (hne b (by rw [e, e1]; rfl))]
  exact e2
theorem RF.lit {S : St} {b m el L k : Nat} {l : List Fld} (hb : S.get b = some ⟨fldv l, el, true, m⟩) (hm : m ≤ L) (hL : L = l.length * 2) (hn : b < S.next) : RF S (.slice (some ⟨b, 0, some L⟩) l.length k) l := by
  refine ⟨_, _, rfl, fun i hi => ⟨b, L, rfl, ?_, hn⟩⟩
  have hl := fldv_len l
  rw [hb, Go.Proofs.YtdmbgbennlnpcaaDoorAbs.rowAt_own hm (by omega) (by omega), fldv_at l i hi]
section
variable {I : Prims} {S S0 : St} {c : Int} {Q : Value → St → Prop} {e : Env}
end
end Go.Proofs.YtdmbgbennlnpcaaDoor.Q
namespace Go.Proofs.YtdmbgbennlnpcaaDoor.Q
open Go Go.Proofs.YtdmbgbennlnpcaaDoorAbs Go.Proofs
set_option linter.unusedVariables false
set_option linter.unusedSimpArgs false
set_option maxRecDepth 100000
set_option maxHeartbeats 4000000
attribute [local irreducible] Go.Proofs.YtdmbgbennlnpcaaDoorAbs.O Go.Proofs.YtdmbgbennlnpcaaDoorAbs.W Go.Proofs.YtdmbgbennlnpcaaDoorAbs.C Go.Proofs.YtdmbgbennlnpcaaDoorAbs.OK Go.Proofs.YtdmbgbennlnpcaaDoorAbs.OKF Go.Proofs.YtdmbgbennlnpcaaDoorAbs.OKT Go.Proofs.YtdmbgbennlnpcaaDoorAbs.then_ Go.Proofs.YtdmbgbennlnpcaaDoorAbs.inBlock_ Go.Proofs.YtdmbgbennlnpcaaDoorAbs.bodyQ Go.Proofs.YtdmbgbennlnpcaaDoorAbs.Cont
section
variable {I : Prims} {S S0 : St} {c : Int} {Q : Value → St → Prop} {e : Env}
end
end Go.Proofs.YtdmbgbennlnpcaaDoor.Q
namespace Go.Proofs.YtdmbgbennlnpcaaDoor.Q
open Go Go.Proofs.YtdmbgbennlnpcaaDoorAbs Go.Proofs
set_option linter.unusedVariables false
set_option linter.unusedSimpArgs false
set_option maxRecDepth 100000
set_option maxHeartbeats 4000000
attribute [local irreducible] Go.Proofs.YtdmbgbennlnpcaaDoorAbs.O Go.Proofs.YtdmbgbennlnpcaaDoorAbs.W Go.Proofs.YtdmbgbennlnpcaaDoorAbs.C Go.Proofs.YtdmbgbennlnpcaaDoorAbs.OK Go.Proofs.YtdmbgbennlnpcaaDoorAbs.OKF Go.Proofs.YtdmbgbennlnpcaaDoorAbs.OKT Go.Proofs.YtdmbgbennlnpcaaDoorAbs.then_ Go.Proofs.YtdmbgbennlnpcaaDoorAbs.inBlock_ Go.Proofs.YtdmbgbennlnpcaaDoorAbs.bodyQ Go.Proofs.YtdmbgbennlnpcaaDoorAbs.Cont
section
variable {I : Prims} {S S0 : St} {c : Int} {Q : Value → St → Prop} {e : Env}
end
end Go.Proofs.YtdmbgbennlnpcaaDoor.Q
namespace Go.Proofs.YtdmbgbennlnpcaaDoor.Q
open Go Go.Proofs.YtdmbgbennlnpcaaDoorAbs Go.Proofs
set_option linter.unusedVariables false
set_option linter.unusedSimpArgs false
set_option maxRecDepth 100000
set_option maxHeartbeats 4000000
attribute [local irreducible] Go.Proofs.YtdmbgbennlnpcaaDoorAbs.O Go.Proofs.YtdmbgbennlnpcaaDoorAbs.W Go.Proofs.YtdmbgbennlnpcaaDoorAbs.C Go.Proofs.YtdmbgbennlnpcaaDoorAbs.OK Go.Proofs.YtdmbgbennlnpcaaDoorAbs.OKF Go.Proofs.YtdmbgbennlnpcaaDoorAbs.OKT Go.Proofs.YtdmbgbennlnpcaaDoorAbs.then_ Go.Proofs.YtdmbgbennlnpcaaDoorAbs.inBlock_ Go.Proofs.YtdmbgbennlnpcaaDoorAbs.bodyQ Go.Proofs.YtdmbgbennlnpcaaDoorAbs.Cont
def lowC (u : UInt8) : UInt8 := if 65 ≤ u.toNat ∧ u.toNat ≤ 90 then UInt8.ofNat (u.toNat + 32) else u
def lowL (l : List UInt8) : List UInt8 := l.map lowC
def lowB (s : ByteArray) : ByteArray := ⟨(lowL s.data.toList).toArray⟩
theorem lowC_nat (u : UInt8) : ((lowC u).toNat : Int) = if 65 ≤ (u.toNat : Int) ∧ (u.toNat : Int) ≤ 90 then (u.toNat : Int) + 32 else (u.toNat : Int) := by
  unfold lowC
  by_cases h : 65 ≤ u.toNat ∧ u.toNat ≤ 90
  · rw [if_pos h, if_pos (by omega), UInt8.toNat_ofNat']; omega
  · rw [if_neg h, if_neg (by omega)]
theorem or32 : ∀ n : Fin 256, 65 ≤ n.val → n.val ≤ 90 → IntKind.u8.wrap ((BitVec.ofInt IntKind.u8.bits (n.val : Int) ||| BitVec.ofInt IntKind.u8.bits 32).toNat : Int) = (n.val : Int) + 32 := by decide +kernel
theorem or32U (u : UInt8) (h : 65 ≤ (u.toNat : Int) ∧ (u.toNat : Int) ≤ 90) : IntKind.u8.wrap ((BitVec.ofInt IntKind.u8.bits (u.toNat : Int) ||| BitVec.ofInt IntKind.u8.bits 32).toNat : Int) = (u.toNat : Int) + 32 := or32 ⟨u.toNat, u.toNat_lt⟩ (by simp only; omega) (by simp only; omega)
theorem sub65 (u : UInt8) (h : 65 ≤ (u.toNat : Int) ∧ (u.toNat : Int) ≤ 90) : IntKind.u8.wrap (IntKind.u8.wrap ((u.toNat : Int) - 65) + 97) = (u.toNat : Int) + 32 := by
  have e : ∀ x : Int, IntKind.u8.wrap x = x % 256 := fun x => by simp [IntKind.wrap, IntKind.bits, IntKind.signed]
  rw [e, e]; omega
theorem low_len (l : List UInt8) : (lowL l).length = l.length := by simp [lowL]
theorem lowB_size (s : ByteArray) : (lowB s).size = s.size := by
  have h : (lowB s).size = (lowL s.data.toList).length := rfl
  rw [h, low_len]; exact Array.length_toList
def sameB (a b : ByteArray) : Bool := decide (lowB a = lowB b)
theorem low_step {l : List UInt8} {i : Nat} (hi : i < l.length) : lowL (l.take (i + 1)) = lowL (l.take i) ++ [lowC (l.getD i 0)] := by
  rw [List.take_add_one, List.getElem?_eq_getElem hi]
  simp only [lowL, List.map_append, Option.toList_some, List.map_cons, List.map_nil]
  rw [getD_of hi]
section
variable {I : Prims} {S S0 : St} {c : Int} {Q : Value → St → Prop} {e : Env}
structure Gr (el sz : Nat) (S0 S : St) (v : Value) (n : Nat) (xs : List Value) : Prop where
  kp : KpL S0 S
  own : Own el sz S v n xs
  new : ∀ b, blkOf v = some b → S0.next ≤ b
theorem Gr.nil (el sz : Nat) (S : St) : Gr el sz S S (.slice none 0 0) 0 [] := ⟨KpL.refl _, Own.nil _ _ _, fun _ q => by cases q⟩
theorem Gr.keep {el sz : Nat} {S0 S S' : St} {v : Value} {n : Nat} {xs : List Value} (h : Gr el sz S0 S v n xs) (k : KpL S S') : Gr el sz S0 S' v n xs := ⟨h.kp.trans k, h.own.kept k.kept (.inl rfl), h.new⟩
theorem Gr.step {el sz : Nat} {S0 S S' : St} {v v' : Value} {n m : Nat} {xs ys : List Value} (h : Gr el sz S0 S v n xs) (hO : Own el sz S' v' (n + m) (xs ++ ys)) (hK : Kept S S' (blkOf v)) (hB : blkOf v' = blkOf v ∨ ∃ i, S.next ≤ i ∧ blkOf v' = some i) (hL : ∀ k, k ≤ S.low → (∀ b, blkOf v = some b → k ≤ b) → k ≤ S'.low) : Gr el sz S0 S' v' (n + m) (xs ++ ys) := by
  refine ⟨⟨Nat.le_trans h.kp.1 hK.1, fun j hj hj2 => ?_, fun k hk1 hk2 => ?_⟩, hO, fun i q => ?_⟩
  · refine (hK.2 j (Nat.lt_of_lt_of_le hj h.kp.1) fun q => ?_).trans (h.kp.2 j hj hj2)
    have := h.new j q
    omega
  · exact hL k (h.kp.low k hk1 hk2) fun b hb => Nat.le_trans hk2 (h.new b hb)
  · rcases hB with z | ⟨j, z1, z2⟩
    · exact h.new i (z ▸ q)
    · rw [z2] at q; cases q; exact Nat.le_trans h.kp.1 z1
theorem O_gr {P : Program} {ops : Array Oper} {r : List Oper} {dst : Option Tmp} {ty : TypeId} {pos : String} {after : Array Edge} {s x : Operand} {t tx elem size bytes n m : Nat} {z : Value} {xs ys : List Value} {R : Env → St → Prop} (hu : P.underlying t = some (.slice elem)) (hs : asize P elem = some size) (hb : abytes P elem = some bytes) (hz : azero P elem = some z)
    (hc : 0 < size ∧ 0 < bytes ∧ z.cells.size = size) (ha : Gr elem size S0 S (e.ev s) n xs) (hx : asrc P S tx size (e.ev x) = some (m, ys)) (hy : ys.length = m * size ∧ ys.all oneC = true) (hl : (3 * (n + m) + 2048) * bytes ≤ 281474976710656)
    (hk : ∀ v' S', Gr elem size S0 S' v' (n + m) (xs ++ ys) → O P I ops r [] R (e.putO dst v') S') : O P I ops (⟨dst, .call ⟨.builtin .append, #[s, x], #[t, tx]⟩, ty, pos, after, none⟩ :: r) [] R e S :=
  O_appendL hu hs hb hz hc ha.own hx hy hl fun v' S' hO hK hB hL => hk v' S' (ha.step hO hK hB hL)
theorem low_set {l : List UInt8} {i : Nat} (hi : i < l.length) : (u8v (lowL (l.take i) ++ l.drop i)).take i ++ [.int .u8 ((lowC (l.getD i 0)).toNat : Int)] ++ (u8v (lowL (l.take i) ++ l.drop i)).drop (i + 1) = u8v (lowL (l.take (i + 1)) ++ l.drop (i + 1)) := by
  have hl : (lowL (l.take i)).length = i := by rw [low_len]; simp; omega
  have e1 : (u8v (lowL (l.take i) ++ l.drop i)).take i = u8v (lowL (l.take i)) := by
    simp only [u8v]
    rw [← List.map_take, List.take_left' hl]
  have e2 : (u8v (lowL (l.take i) ++ l.drop i)).drop (i + 1) = u8v (l.drop (i + 1)) := by
    simp only [u8v]
    rw [← List.map_drop, ← List.drop_drop, List.drop_left' hl, List.drop_drop]
  rw [e1, e2, low_step hi]
  simp [u8v]
theorem low_same {l : List UInt8} {i : Nat} (hi : i < l.length) (h : lowC (l.getD i 0) = l.getD i 0) : u8v (lowL (l.take i) ++ l.drop i) = u8v (lowL (l.take (i + 1)) ++ l.drop (i + 1)) := by
  have hd : l.drop i = l.getD i 0 :: l.drop (i + 1) := by rw [getD_of hi]; exact List.drop_eq_getElem_cons hi
  rw [low_step hi, hd, h]
  simp
theorem low_at {l : List UInt8} {i : Nat} (hi : i < l.length) : (u8v (lowL (l.take i) ++ l.drop i))[i]? = some (.int .u8 ((l.getD i 0).toNat : Int)) := by
  have hl : (lowL (l.take i)).length = i := by rw [low_len]; simp; omega
  simp only [u8v, List.getElem?_map]
  rw [List.getElem?_append_right (by omega), hl, Nat.sub_self, List.getElem?_drop, Nat.add_zero, List.getElem?_eq_getElem hi, getD_of hi]
  rfl
theorem Lower_L (h : HP I) {s : ByteArray} (hs : s.size ≤ 1099511627776) (hQ : ∀ S', KpL S S' → Q (.string (lowB s)) S') : C Tryd.prog I 66 #[.string s] S Q := by
  refine C_body (rs := [.tmp 2]) (h.no 66 (by decide)) Tryd.func66 rfl rfl ok66 ?_
  obtain ⟨sz24, u9, sz3, u3, sz9, sz22, u22, u25, sz5, u5, sz38, u4, sz49, sz50, u58, u70, sz85, sz98, u103, sz25, u114, sz113, u88, sz27, sz108, u108, sz4, sz96, u96, u2, sz123, u123, sz130, u130, u139, sz103, u140, sz141, u142, u141, u21⟩ := UF
  have hsz : s.data.toList.length = s.size := Array.length_toList
  have hcv := cv_bytes S s.data.toList
  have hse : (⟨s.data.toList.toArray⟩ : ByteArray) = s := rfl
  rw [hse] at hcv
  generalize hl : s.data.toList = l at *
  repeat' (first
    | (with_reducible first | refine W_pushC fun K hK => ?_ | refine W_blockI ?_ | refine W_scopeI ?_ | refine W_labelI ?_ | refine W_skipI ?_ | refine W_retI ?_ | refine W_exitI ?_ | refine then_normalI ?_ | refine then_retI ?_ | refine then_exitI ?_ | refine inBlock_normalI ?_ | refine inBlock_retI ?_ | refine inBlock_exitI ?_ | refine inBlock_exitN (by decide) ?_)
    | ((with_reducible first | refine bodyQ_normal0 ?_ | refine bodyQ_normal1 ?_ | refine bodyQ_normal2 ?_ | refine bodyQ_normal3 ?_ | refine bodyQ_normal4 ?_ | refine bodyQ_ret0 ?_ | refine bodyQ_ret1 ?_ | refine bodyQ_ret2 ?_ | refine bodyQ_ret3 ?_ | refine bodyQ_ret4 ?_); (try simp only [EVB, Nat.reduceEqDiff, reduceIte]))
    | (with_reducible refine Cont.use (by assumption) ?_)
    | (with_reducible first | refine hcA ?_ | refine hcB ?_)
    | ((with_reducible first | refine W_condG fun cA cB hcA hcB => ?_ | refine W_regionI ?_ | show O _ _ _ _ _ _ _ _ | show OK _ _ _ _ _ _ _ _ _ | show OKF _ _ _ _ _ _ _ _ _ _ | show OKT _ _ _ _ _ _ _ _ _ _ _ _ | show _ ∧ _ | show CG _ _ _ | show CB _ _ _); simp (disch := first | ((with_reducible show isStop _ = false); rfl) | ((with_reducible show isP _ = true); rfl) | ((with_reducible show (isStop _ || isP _) = false); rfl) | assumption | (simp only [GSB, Nat.reduceEqDiff, reduceIte]; done) | omega | (with_reducible decide) | (simp only [DSB, Go.Proofs.YtdmbgbennlnpcaaDoorAbs.oneC, Go.Proofs.YtdmbgbennlnpcaaDoorAbs.St.next_withLow, Nat.reduceAdd, Nat.reduceLeDiff] <;> omega) | fail) only [↓DN, ↓reduceIte, UP, CGB, Int.reduceEq, Int.reduceLT, Int.reduceLE, Nat.reduceEqDiff, Nat.reduceAdd, Nat.reduceMul, Nat.reduceSub, Int.reduceToNat, Nat.reduceLeDiff, PF, isStop, isP, goInt, beq_self_eq_true, decide_true, decide_false, Int.toNat_natCast, Int.natCast_zero, hcv])
    | ((with_reducible refine CB_intro (fun ht => hcA ?_) (fun ht => hcB ?_)) <;> (first | (simp only [Bool.true_eq_false, Bool.false_eq_true] at ht; done) | ((try simp only [Bool.not_eq_true', Bool.not_eq_false'] at ht); (try simp only [ht]); (try simp only [HTN] at ht); (try (exfalso; omega)))))
    | ((with_reducible refine W_regionI ?_); simp only [List.append_eq, List.cons_append, List.nil_append])
    | (with_reducible refine O_splitG fun cA cB hcA hcB => ?_))
  refine W_loop (fun z e S1 => ∃ (i m : Nat), e.get 3 = .slice (some ⟨S.next, 0, some l.length⟩) l.length (UNK + 1) ∧ e.get 8 = .slice (some ⟨S.next, 0, some l.length⟩) l.length (UNK + 1) ∧ e.get 9 = .int .i64 l.length ∧ e.get 10 = .int .i64 i ∧ i ≤ l.length ∧ z = l.length - i ∧ KpL S S1 ∧ S1.get S.next = some ⟨u8v (lowL (l.take i) ++ l.drop i), 5, true, m⟩ ∧ m ≤ l.length ∧ S.next < S1.next) l.length ⟨0, 0, by simp only [EVB, Nat.reduceEqDiff, reduceIte], by simp only [EVB, Nat.reduceEqDiff, reduceIte], by simp only [EVB, Nat.reduceEqDiff, reduceIte], by simp only [EVB, Nat.reduceEqDiff, reduceIte]; rfl, Nat.zero_le _, by simp, KpL.push _ _, by rw [show lowL (l.take 0) ++ l.drop 0 = l from rfl]; exact St.get_push_self _ _, Nat.zero_le _, Nat.lt_succ_self _⟩ ?_
  rintro z e S1 ⟨i, m, e3, e8, e9, e10, hi, hz, kS, hg, hm, hn1⟩
  have wi : IntKind.i64.wrap ((i : Int) + 1) = ((i + 1 : Nat) : Int) := by rw [Go.Proofs.YtdmbgbennlnpcaaDoorAbs.wp64 (by omega) (by omega)]; omega
  have hcl : (u8v (lowL (l.take i) ++ l.drop i)).length = l.length := by simp [u8v, lowL]; omega
  by_cases hlt : i < l.length
  · have hd : decide ((i : Int) < (l.length : Int)) = true := decide_eq_true (by omega)
    have hc1 : Go.Proofs.YtdmbgbennlnpcaaDoorAbs.cellAt (S1.get S.next) i l.length = some (.int .u8 ((l.getD i 0).toNat : Int)) := by
      rw [hg, Go.Proofs.YtdmbgbennlnpcaaDoorAbs.cellAt_own hm (by omega), low_at hlt]
    have hset := low_set hlt
    have hsame := low_same (i := i) hlt
    have hlc := lowC_nat (l.getD i 0)
    have hor := or32U (l.getD i 0)
    have hst : ∀ v : Value, oneC v = true → storeAt S1 S.next (S1.get S.next) i l.length #[v] = some (S1.upd S.next ⟨(u8v (lowL (l.take i) ++ l.drop i)).take i ++ [v] ++ (u8v (lowL (l.take i) ++ l.drop i)).drop (i + 1), 5, true, l.length⟩) := fun v hv => by
      rw [hg, storeAt_own hcl.symm hm (by simp; omega) hn1 (by simp [hv]), hcl]
      rfl
    generalize hcells : u8v (lowL (l.take i) ++ l.drop i) = cells at *
    generalize hu : l.getD i 0 = u at *
    have hu0 : 0 ≤ (u.toNat : Int) ∧ (u.toNat : Int) < 256 := by have := u.toNat_lt; omega
    by_cases hA : 65 ≤ (u.toNat : Int) ∧ (u.toNat : Int) ≤ 90
    · have d1 : decide ((65 : Int) ≤ (u.toNat : Int)) = true := decide_eq_true hA.1
      have d2 : decide ((u.toNat : Int) ≤ 90) = true := decide_eq_true hA.2
      have ho := hor hA
      rw [if_pos hA] at hlc
      rw [hlc] at hset
      have hs2 := hst (.int .u8 ((u.toNat : Int) + 32)) rfl
      repeat' (first
    | (with_reducible first | refine W_pushC fun K hK => ?_ | refine W_blockI ?_ | refine W_scopeI ?_ | refine W_labelI ?_ | refine W_skipI ?_ | refine W_retI ?_ | refine W_exitI ?_ | refine then_normalI ?_ | refine then_retI ?_ | refine then_exitI ?_ | refine inBlock_normalI ?_ | refine inBlock_retI ?_ | refine inBlock_exitI ?_ | refine inBlock_exitN (by decide) ?_)
    | ((with_reducible first | refine bodyQ_normal0 ?_ | refine bodyQ_normal1 ?_ | refine bodyQ_normal2 ?_ | refine bodyQ_normal3 ?_ | refine bodyQ_normal4 ?_ | refine bodyQ_ret0 ?_ | refine bodyQ_ret1 ?_ | refine bodyQ_ret2 ?_ | refine bodyQ_ret3 ?_ | refine bodyQ_ret4 ?_); (try simp only [EVB, Nat.reduceEqDiff, reduceIte]))
    | (with_reducible refine Cont.use (by assumption) ?_)
    | (with_reducible first | refine hcA ?_ | refine hcB ?_)
    | ((with_reducible first | refine W_condG fun cA cB hcA hcB => ?_ | refine W_regionI ?_ | show O _ _ _ _ _ _ _ _ | show OK _ _ _ _ _ _ _ _ _ | show OKF _ _ _ _ _ _ _ _ _ _ | show OKT _ _ _ _ _ _ _ _ _ _ _ _ | show _ ∧ _ | show CG _ _ _ | show CB _ _ _); simp (disch := first | ((with_reducible show isStop _ = false); rfl) | ((with_reducible show isP _ = true); rfl) | ((with_reducible show (isStop _ || isP _) = false); rfl) | assumption | (simp only [GSB, Nat.reduceEqDiff, reduceIte]; done) | omega | (with_reducible decide) | (simp only [DSB, Go.Proofs.YtdmbgbennlnpcaaDoorAbs.oneC, Go.Proofs.YtdmbgbennlnpcaaDoorAbs.St.next_withLow, Nat.reduceAdd, Nat.reduceLeDiff] <;> omega) | fail) only [↓DN, ↓reduceIte, UP, CGB, Int.reduceEq, Int.reduceLT, Int.reduceLE, Nat.reduceEqDiff, Nat.reduceAdd, Nat.reduceMul, Nat.reduceSub, Int.reduceToNat, Nat.reduceLeDiff, PF, isStop, isP, goInt, beq_self_eq_true, decide_true, decide_false, Int.toNat_natCast, Int.natCast_zero, hd, e3, e8, e9, e10, wi, hc1, d1, d2, ho, hs2])
    | ((with_reducible refine CB_intro (fun ht => hcA ?_) (fun ht => hcB ?_)) <;> (first | (simp only [Bool.true_eq_false, Bool.false_eq_true] at ht; done) | ((try simp only [Bool.not_eq_true', Bool.not_eq_false'] at ht); (try simp only [ht]); (try simp only [HTN] at ht); (try (exfalso; omega)))))
    | ((with_reducible refine W_regionI ?_); simp only [List.append_eq, List.cons_append, List.nil_append])
    | (with_reducible refine O_splitG fun cA cB hcA hcB => ?_)
    | ((refine ⟨_, ?_, i + 1, l.length, by simp only [EVB, Nat.reduceEqDiff, reduceIte, e3], by simp only [EVB, Nat.reduceEqDiff, reduceIte, e8], by simp only [EVB, Nat.reduceEqDiff, reduceIte, e9], by simp only [EVB, Nat.reduceEqDiff, reduceIte], by omega, rfl, kS.upd (Nat.le_refl _) _, by rw [St.get_upd_self, hset], Nat.le_refl _, hn1⟩; omega)))
    · rw [if_neg hA] at hlc
      have hs2 := hsame (UInt8.toNat_inj.1 (by omega))
      repeat' (first
    | (with_reducible first | refine W_pushC fun K hK => ?_ | refine W_blockI ?_ | refine W_scopeI ?_ | refine W_labelI ?_ | refine W_skipI ?_ | refine W_retI ?_ | refine W_exitI ?_ | refine then_normalI ?_ | refine then_retI ?_ | refine then_exitI ?_ | refine inBlock_normalI ?_ | refine inBlock_retI ?_ | refine inBlock_exitI ?_ | refine inBlock_exitN (by decide) ?_)
    | ((with_reducible first | refine bodyQ_normal0 ?_ | refine bodyQ_normal1 ?_ | refine bodyQ_normal2 ?_ | refine bodyQ_normal3 ?_ | refine bodyQ_normal4 ?_ | refine bodyQ_ret0 ?_ | refine bodyQ_ret1 ?_ | refine bodyQ_ret2 ?_ | refine bodyQ_ret3 ?_ | refine bodyQ_ret4 ?_); (try simp only [EVB, Nat.reduceEqDiff, reduceIte]))
    | (with_reducible refine Cont.use (by assumption) ?_)
    | (with_reducible first | refine hcA ?_ | refine hcB ?_)
    | ((with_reducible first | refine W_condG fun cA cB hcA hcB => ?_ | refine W_regionI ?_ | show O _ _ _ _ _ _ _ _ | show OK _ _ _ _ _ _ _ _ _ | show OKF _ _ _ _ _ _ _ _ _ _ | show OKT _ _ _ _ _ _ _ _ _ _ _ _ | show _ ∧ _ | show CG _ _ _ | show CB _ _ _); simp (disch := first | ((with_reducible show isStop _ = false); rfl) | ((with_reducible show isP _ = true); rfl) | ((with_reducible show (isStop _ || isP _) = false); rfl) | assumption | (simp only [GSB, Nat.reduceEqDiff, reduceIte]; done) | omega | (with_reducible decide) | (simp only [DSB, Go.Proofs.YtdmbgbennlnpcaaDoorAbs.oneC, Go.Proofs.YtdmbgbennlnpcaaDoorAbs.St.next_withLow, Nat.reduceAdd, Nat.reduceLeDiff] <;> omega) | fail) only [↓DN, ↓reduceIte, UP, CGB, Int.reduceEq, Int.reduceLT, Int.reduceLE, Nat.reduceEqDiff, Nat.reduceAdd, Nat.reduceMul, Nat.reduceSub, Int.reduceToNat, Nat.reduceLeDiff, PF, isStop, isP, goInt, beq_self_eq_true, decide_true, decide_false, Int.toNat_natCast, Int.natCast_zero, hd, e3, e8, e9, e10, wi, hc1])
    | ((with_reducible refine CB_intro (fun ht => hcA ?_) (fun ht => hcB ?_)) <;> (first | (simp only [Bool.true_eq_false, Bool.false_eq_true] at ht; done) | ((try simp only [Bool.not_eq_true', Bool.not_eq_false'] at ht); (try simp only [ht]); (try simp only [HTN] at ht); (try (exfalso; omega)))))
    | ((with_reducible refine W_regionI ?_); simp only [List.append_eq, List.cons_append, List.nil_append])
    | (with_reducible refine O_splitG fun cA cB hcA hcB => ?_)
    | ((refine ⟨_, ?_, i + 1, m, by simp only [EVB, Nat.reduceEqDiff, reduceIte, e3], by simp only [EVB, Nat.reduceEqDiff, reduceIte, e8], by simp only [EVB, Nat.reduceEqDiff, reduceIte, e9], by simp only [EVB, Nat.reduceEqDiff, reduceIte], by omega, rfl, kS, by rw [hg, hs2], hm, hn1⟩; omega)))
  · have hd : decide ((i : Int) < (l.length : Int)) = false := decide_eq_false (by omega)
    rw [List.take_of_length_le (by omega), List.drop_of_length_le (by omega), List.append_nil] at hg
    have hll := low_len l
    have hc := conv_own (S := S1) (bt := S.next) (mt := m) (o := 0) (k := (lowL l).length) (c := UNK + 1) (xs := lowL l) hg (by omega) (by omega)
    rw [List.drop_zero, List.take_of_length_le (Nat.le_refl _), hll] at hc
    have hr : (⟨(lowL l).toArray⟩ : ByteArray) = lowB s := by rw [← hl]; rfl
    rw [hr] at hc
    have hq := hQ _ kS
    repeat' (first
    | (with_reducible first | refine W_pushC fun K hK => ?_ | refine W_blockI ?_ | refine W_scopeI ?_ | refine W_labelI ?_ | refine W_skipI ?_ | refine W_retI ?_ | refine W_exitI ?_ | refine then_normalI ?_ | refine then_retI ?_ | refine then_exitI ?_ | refine inBlock_normalI ?_ | refine inBlock_retI ?_ | refine inBlock_exitI ?_ | refine inBlock_exitN (by decide) ?_)
    | ((with_reducible first | refine bodyQ_normal0 ?_ | refine bodyQ_normal1 ?_ | refine bodyQ_normal2 ?_ | refine bodyQ_normal3 ?_ | refine bodyQ_normal4 ?_ | refine bodyQ_ret0 ?_ | refine bodyQ_ret1 ?_ | refine bodyQ_ret2 ?_ | refine bodyQ_ret3 ?_ | refine bodyQ_ret4 ?_); (try simp only [EVB, Nat.reduceEqDiff, reduceIte]))
    | (with_reducible refine Cont.use (by assumption) ?_)
    | (with_reducible first | refine hcA ?_ | refine hcB ?_)
    | ((with_reducible first | refine W_condG fun cA cB hcA hcB => ?_ | refine W_regionI ?_ | show O _ _ _ _ _ _ _ _ | show OK _ _ _ _ _ _ _ _ _ | show OKF _ _ _ _ _ _ _ _ _ _ | show OKT _ _ _ _ _ _ _ _ _ _ _ _ | show _ ∧ _ | show CG _ _ _ | show CB _ _ _); simp (disch := first | ((with_reducible show isStop _ = false); rfl) | ((with_reducible show isP _ = true); rfl) | ((with_reducible show (isStop _ || isP _) = false); rfl) | assumption | (simp only [GSB, Nat.reduceEqDiff, reduceIte]; done) | omega | (with_reducible decide) | (simp only [DSB, Go.Proofs.YtdmbgbennlnpcaaDoorAbs.oneC, Go.Proofs.YtdmbgbennlnpcaaDoorAbs.St.next_withLow, Nat.reduceAdd, Nat.reduceLeDiff] <;> omega) | fail) only [↓DN, ↓reduceIte, UP, CGB, Int.reduceEq, Int.reduceLT, Int.reduceLE, Nat.reduceEqDiff, Nat.reduceAdd, Nat.reduceMul, Nat.reduceSub, Int.reduceToNat, Nat.reduceLeDiff, PF, isStop, isP, goInt, beq_self_eq_true, decide_true, decide_false, Int.toNat_natCast, Int.natCast_zero, hd, e3, e8, e9, e10, hc])
    | ((with_reducible refine CB_intro (fun ht => hcA ?_) (fun ht => hcB ?_)) <;> (first | (simp only [Bool.true_eq_false, Bool.false_eq_true] at ht; done) | ((try simp only [Bool.not_eq_true', Bool.not_eq_false'] at ht); (try simp only [ht]); (try simp only [HTN] at ht); (try (exfalso; omega)))))
    | ((with_reducible refine W_regionI ?_); simp only [List.append_eq, List.cons_append, List.nil_append])
    | (with_reducible refine O_splitG fun cA cB hcA hcB => ?_)
    | (exact hq))
theorem RLower_L (h : HP I) {s : ByteArray} (hs : s.size ≤ 1099511627776) (hQ : ∀ S', KpL S S' → Q (.string (lowB s)) S') : C Tryd.prog I 67 #[.string s] S Q := by
  refine C_body (rs := [.tmp 2]) (h.no 67 (by decide)) Tryd.func67 rfl rfl ok67 ?_
  obtain ⟨sz24, u9, sz3, u3, sz9, sz22, u22, u25, sz5, u5, sz38, u4, sz49, sz50, u58, u70, sz85, sz98, u103, sz25, u114, sz113, u88, sz27, sz108, u108, sz4, sz96, u96, u2, sz123, u123, sz130, u130, u139, sz103, u140, sz141, u142, u141, u21⟩ := UF
  have hsz : s.data.toList.length = s.size := Array.length_toList
  repeat' (first
    | (with_reducible first | refine W_pushC fun K hK => ?_ | refine W_blockI ?_ | refine W_scopeI ?_ | refine W_labelI ?_ | refine W_skipI ?_ | refine W_retI ?_ | refine W_exitI ?_ | refine then_normalI ?_ | refine then_retI ?_ | refine then_exitI ?_ | refine inBlock_normalI ?_ | refine inBlock_retI ?_ | refine inBlock_exitI ?_ | refine inBlock_exitN (by decide) ?_)
    | ((with_reducible first | refine bodyQ_normal0 ?_ | refine bodyQ_normal1 ?_ | refine bodyQ_normal2 ?_ | refine bodyQ_normal3 ?_ | refine bodyQ_normal4 ?_ | refine bodyQ_ret0 ?_ | refine bodyQ_ret1 ?_ | refine bodyQ_ret2 ?_ | refine bodyQ_ret3 ?_ | refine bodyQ_ret4 ?_); (try simp only [EVB, Nat.reduceEqDiff, reduceIte]))
    | (with_reducible refine Cont.use (by assumption) ?_)
    | (with_reducible first | refine hcA ?_ | refine hcB ?_)
    | ((with_reducible first | refine W_condG fun cA cB hcA hcB => ?_ | refine W_regionI ?_ | show O _ _ _ _ _ _ _ _ | show OK _ _ _ _ _ _ _ _ _ | show OKF _ _ _ _ _ _ _ _ _ _ | show OKT _ _ _ _ _ _ _ _ _ _ _ _ | show _ ∧ _ | show CG _ _ _ | show CB _ _ _); simp (disch := first | ((with_reducible show isStop _ = false); rfl) | ((with_reducible show isP _ = true); rfl) | ((with_reducible show (isStop _ || isP _) = false); rfl) | assumption | (simp only [GSB, Nat.reduceEqDiff, reduceIte]; done) | omega | (with_reducible decide) | (simp only [DSB, Go.Proofs.YtdmbgbennlnpcaaDoorAbs.oneC, Go.Proofs.YtdmbgbennlnpcaaDoorAbs.St.next_withLow, Nat.reduceAdd, Nat.reduceLeDiff] <;> omega) | fail) only [↓DN, ↓reduceIte, UP, CGB, Int.reduceEq, Int.reduceLT, Int.reduceLE, Nat.reduceEqDiff, Nat.reduceAdd, Nat.reduceMul, Nat.reduceSub, Int.reduceToNat, Nat.reduceLeDiff, PF, isStop, isP, goInt, beq_self_eq_true, decide_true, decide_false, Int.toNat_natCast, Int.natCast_zero])
    | ((with_reducible refine CB_intro (fun ht => hcA ?_) (fun ht => hcB ?_)) <;> (first | (simp only [Bool.true_eq_false, Bool.false_eq_true] at ht; done) | ((try simp only [Bool.not_eq_true', Bool.not_eq_false'] at ht); (try simp only [ht]); (try simp only [HTN] at ht); (try (exfalso; omega)))))
    | ((with_reducible refine W_regionI ?_); simp only [List.append_eq, List.cons_append, List.nil_append])
    | (with_reducible refine O_splitG fun cA cB hcA hcB => ?_))
  refine W_loop (fun z e S1 => ∃ (i : Nat) (v : Value), e.get 0 = .string s ∧ e.get 3 = v ∧ e.get 4 = .int .i64 i ∧ i ≤ s.size ∧ z = s.size - i ∧ Gr 5 1 S S1 v i (u8v (lowL (s.data.toList.take i)))) s.size ⟨0, .slice none 0 0, by simp only [EVB, Nat.reduceEqDiff, reduceIte], by simp only [EVB, Nat.reduceEqDiff, reduceIte], by simp only [EVB, Nat.reduceEqDiff, reduceIte]; rfl, Nat.zero_le _, by simp, by simpa [lowL, u8v] using Gr.nil 5 1 S⟩ ?_
  rintro z e S1 ⟨i, v, e0, e3, e4, hi, hz, hG⟩
  have wi : IntKind.i64.wrap ((i : Int) + 1) = ((i + 1 : Nat) : Int) := by rw [Go.Proofs.YtdmbgbennlnpcaaDoorAbs.wp64 (by omega) (by omega)]; omega
  by_cases hlt : i < s.size
  · have hd : decide ((i : Int) < (s.size : Int)) = true := decide_eq_true (by omega)
    have hix : ixX Tryd.prog 9 (.string s) (.int .i64 (i : Int)) = some (.int .u8 ((s.data.toList.getD i 0).toNat : Int)) := by
      rw [ixX_string _ _ _ _ u9 (by omega) (by omega), Int.toNat_natCast]
    have hstep := low_step (l := s.data.toList) (i := i) (by omega)
    have hlc := lowC_nat (s.data.toList.getD i 0)
    have hsb := sub65 (s.data.toList.getD i 0)
    generalize hu : s.data.toList.getD i 0 = u at *
    have hu0 : 0 ≤ (u.toNat : Int) ∧ (u.toNat : Int) < 256 := by have := u.toNat_lt; omega
    have bs : ∀ (x : Int) (S : St), abuildSlice Tryd.prog S 25 1 #[(0, .int .u8 x)] = some (.slice (some ⟨S.next, 0, some 1⟩) 1 1, S.push ⟨[.int .u8 x], 5, true, 0⟩) := by intros; kernel_rfl
    have gx : ∀ x : Int, asrc Tryd.prog (S1.push ⟨[.int .u8 x], 5, true, 0⟩) 25 1 (.slice (some ⟨S1.next, 0, some 1⟩) 1 1) = some (1, [.int .u8 x]) := fun x => asrc_own_lit (m := 0) u25 (St.get_push_self _ _) (Nat.zero_le _) rfl rfl
    have hfin : u8v (lowL (s.data.toList.take i)) ++ [.int .u8 ((lowC u).toNat : Int)] = u8v (lowL (s.data.toList.take (i + 1))) := by rw [hstep]; simp [u8v]
    by_cases hA : 65 ≤ (u.toNat : Int) ∧ (u.toNat : Int) ≤ 90
    · have d1 : decide ((65 : Int) ≤ (u.toNat : Int)) = true := decide_eq_true hA.1
      have d2 : decide ((u.toNat : Int) ≤ 90) = true := decide_eq_true hA.2
      have ho := hsb hA
      rw [if_pos hA] at hlc
      repeat' (first
    | (with_reducible first | refine W_pushC fun K hK => ?_ | refine W_blockI ?_ | refine W_scopeI ?_ | refine W_labelI ?_ | refine W_skipI ?_ | refine W_retI ?_ | refine W_exitI ?_ | refine then_normalI ?_ | refine then_retI ?_ | refine then_exitI ?_ | refine inBlock_normalI ?_ | refine inBlock_retI ?_ | refine inBlock_exitI ?_ | refine inBlock_exitN (by decide) ?_)
    | ((with_reducible first | refine bodyQ_normal0 ?_ | refine bodyQ_normal1 ?_ | refine bodyQ_normal2 ?_ | refine bodyQ_normal3 ?_ | refine bodyQ_normal4 ?_ | refine bodyQ_ret0 ?_ | refine bodyQ_ret1 ?_ | refine bodyQ_ret2 ?_ | refine bodyQ_ret3 ?_ | refine bodyQ_ret4 ?_); (try simp only [EVB, Nat.reduceEqDiff, reduceIte]))
    | (with_reducible refine Cont.use (by assumption) ?_)
    | (with_reducible first | refine hcA ?_ | refine hcB ?_)
    | ((with_reducible first | refine W_condG fun cA cB hcA hcB => ?_ | refine W_regionI ?_ | show O _ _ _ _ _ _ _ _ | show OK _ _ _ _ _ _ _ _ _ | show OKF _ _ _ _ _ _ _ _ _ _ | show OKT _ _ _ _ _ _ _ _ _ _ _ _ | show _ ∧ _ | show CG _ _ _ | show CB _ _ _); simp (disch := first | ((with_reducible show isStop _ = false); rfl) | ((with_reducible show isP _ = true); rfl) | ((with_reducible show (isStop _ || isP _) = false); rfl) | assumption | (simp only [GSB, Nat.reduceEqDiff, reduceIte]; done) | omega | (with_reducible decide) | (simp only [DSB, Go.Proofs.YtdmbgbennlnpcaaDoorAbs.oneC, Go.Proofs.YtdmbgbennlnpcaaDoorAbs.St.next_withLow, Nat.reduceAdd, Nat.reduceLeDiff] <;> omega) | fail) only [↓DN, ↓reduceIte, UP, CGB, Int.reduceEq, Int.reduceLT, Int.reduceLE, Nat.reduceEqDiff, Nat.reduceAdd, Nat.reduceMul, Nat.reduceSub, Int.reduceToNat, Nat.reduceLeDiff, PF, isStop, isP, goInt, beq_self_eq_true, decide_true, decide_false, Int.toNat_natCast, Int.natCast_zero, hd, e0, e3, e4, hix, d1, d2, ho, bs])
    | ((with_reducible refine CB_intro (fun ht => hcA ?_) (fun ht => hcB ?_)) <;> (first | (simp only [Bool.true_eq_false, Bool.false_eq_true] at ht; done) | ((try simp only [Bool.not_eq_true', Bool.not_eq_false'] at ht); (try simp only [ht]); (try simp only [HTN] at ht); (try (exfalso; omega)))))
    | ((with_reducible refine W_regionI ?_); simp only [List.append_eq, List.cons_append, List.nil_append])
    | (with_reducible refine O_splitG fun cA cB hcA hcB => ?_))
      refine O_gr (S0 := S) (elem := 5) (size := 1) (bytes := 1) (n := i) (m := 1) (xs := u8v (lowL (s.data.toList.take i))) (ys := [.int .u8 ((u.toNat : Int) + 32)]) u25 sz5 by5 ze5 ⟨by decide, by decide, rfl⟩ (by simp only [EVB, Nat.reduceEqDiff, reduceIte, e3]; exact hG.keep (KpL.push _ _)) (by simp only [EVB, Nat.reduceEqDiff, reduceIte]; exact gx _) ⟨rfl, rfl⟩ (by omega) fun v' S' hG' => ?_
      rw [← hlc, hfin] at hG'
      repeat' (first
    | (with_reducible first | refine W_pushC fun K hK => ?_ | refine W_blockI ?_ | refine W_scopeI ?_ | refine W_labelI ?_ | refine W_skipI ?_ | refine W_retI ?_ | refine W_exitI ?_ | refine then_normalI ?_ | refine then_retI ?_ | refine then_exitI ?_ | refine inBlock_normalI ?_ | refine inBlock_retI ?_ | refine inBlock_exitI ?_ | refine inBlock_exitN (by decide) ?_)
    | ((with_reducible first | refine bodyQ_normal0 ?_ | refine bodyQ_normal1 ?_ | refine bodyQ_normal2 ?_ | refine bodyQ_normal3 ?_ | refine bodyQ_normal4 ?_ | refine bodyQ_ret0 ?_ | refine bodyQ_ret1 ?_ | refine bodyQ_ret2 ?_ | refine bodyQ_ret3 ?_ | refine bodyQ_ret4 ?_); (try simp only [EVB, Nat.reduceEqDiff, reduceIte]))
    | (with_reducible refine Cont.use (by assumption) ?_)
    | (with_reducible first | refine hcA ?_ | refine hcB ?_)
    | ((with_reducible first | refine W_condG fun cA cB hcA hcB => ?_ | refine W_regionI ?_ | show O _ _ _ _ _ _ _ _ | show OK _ _ _ _ _ _ _ _ _ | show OKF _ _ _ _ _ _ _ _ _ _ | show OKT _ _ _ _ _ _ _ _ _ _ _ _ | show _ ∧ _ | show CG _ _ _ | show CB _ _ _); simp (disch := first | ((with_reducible show isStop _ = false); rfl) | ((with_reducible show isP _ = true); rfl) | ((with_reducible show (isStop _ || isP _) = false); rfl) | assumption | (simp only [GSB, Nat.reduceEqDiff, reduceIte]; done) | omega | (with_reducible decide) | (simp only [DSB, Go.Proofs.YtdmbgbennlnpcaaDoorAbs.oneC, Go.Proofs.YtdmbgbennlnpcaaDoorAbs.St.next_withLow, Nat.reduceAdd, Nat.reduceLeDiff] <;> omega) | fail) only [↓DN, ↓reduceIte, UP, CGB, Int.reduceEq, Int.reduceLT, Int.reduceLE, Nat.reduceEqDiff, Nat.reduceAdd, Nat.reduceMul, Nat.reduceSub, Int.reduceToNat, Nat.reduceLeDiff, PF, isStop, isP, goInt, beq_self_eq_true, decide_true, decide_false, Int.toNat_natCast, Int.natCast_zero, e0, e4, wi])
    | ((with_reducible refine CB_intro (fun ht => hcA ?_) (fun ht => hcB ?_)) <;> (first | (simp only [Bool.true_eq_false, Bool.false_eq_true] at ht; done) | ((try simp only [Bool.not_eq_true', Bool.not_eq_false'] at ht); (try simp only [ht]); (try simp only [HTN] at ht); (try (exfalso; omega)))))
    | ((with_reducible refine W_regionI ?_); simp only [List.append_eq, List.cons_append, List.nil_append])
    | (with_reducible refine O_splitG fun cA cB hcA hcB => ?_)
    | ((refine ⟨_, ?_, i + 1, v', by simp only [EVB, Nat.reduceEqDiff, reduceIte, e0], by simp only [EVB, Nat.reduceEqDiff, reduceIte], by simp only [EVB, Nat.reduceEqDiff, reduceIte, wi], by omega, rfl, hG'⟩; omega)))
    · rw [if_neg hA] at hlc
      by_cases h65 : 65 ≤ (u.toNat : Int)
      · have d1 : decide ((65 : Int) ≤ (u.toNat : Int)) = true := decide_eq_true h65
        have d2 : decide ((u.toNat : Int) ≤ 90) = false := decide_eq_false (by omega)
        repeat' (first
    | (with_reducible first | refine W_pushC fun K hK => ?_ | refine W_blockI ?_ | refine W_scopeI ?_ | refine W_labelI ?_ | refine W_skipI ?_ | refine W_retI ?_ | refine W_exitI ?_ | refine then_normalI ?_ | refine then_retI ?_ | refine then_exitI ?_ | refine inBlock_normalI ?_ | refine inBlock_retI ?_ | refine inBlock_exitI ?_ | refine inBlock_exitN (by decide) ?_)
    | ((with_reducible first | refine bodyQ_normal0 ?_ | refine bodyQ_normal1 ?_ | refine bodyQ_normal2 ?_ | refine bodyQ_normal3 ?_ | refine bodyQ_normal4 ?_ | refine bodyQ_ret0 ?_ | refine bodyQ_ret1 ?_ | refine bodyQ_ret2 ?_ | refine bodyQ_ret3 ?_ | refine bodyQ_ret4 ?_); (try simp only [EVB, Nat.reduceEqDiff, reduceIte]))
    | (with_reducible refine Cont.use (by assumption) ?_)
    | (with_reducible first | refine hcA ?_ | refine hcB ?_)
    | ((with_reducible first | refine W_condG fun cA cB hcA hcB => ?_ | refine W_regionI ?_ | show O _ _ _ _ _ _ _ _ | show OK _ _ _ _ _ _ _ _ _ | show OKF _ _ _ _ _ _ _ _ _ _ | show OKT _ _ _ _ _ _ _ _ _ _ _ _ | show _ ∧ _ | show CG _ _ _ | show CB _ _ _); simp (disch := first | ((with_reducible show isStop _ = false); rfl) | ((with_reducible show isP _ = true); rfl) | ((with_reducible show (isStop _ || isP _) = false); rfl) | assumption | (simp only [GSB, Nat.reduceEqDiff, reduceIte]; done) | omega | (with_reducible decide) | (simp only [DSB, Go.Proofs.YtdmbgbennlnpcaaDoorAbs.oneC, Go.Proofs.YtdmbgbennlnpcaaDoorAbs.St.next_withLow, Nat.reduceAdd, Nat.reduceLeDiff] <;> omega) | fail) only [↓DN, ↓reduceIte, UP, CGB, Int.reduceEq, Int.reduceLT, Int.reduceLE, Nat.reduceEqDiff, Nat.reduceAdd, Nat.reduceMul, Nat.reduceSub, Int.reduceToNat, Nat.reduceLeDiff, PF, isStop, isP, goInt, beq_self_eq_true, decide_true, decide_false, Int.toNat_natCast, Int.natCast_zero, hd, e0, e3, e4, hix, d1, d2, bs])
    | ((with_reducible refine CB_intro (fun ht => hcA ?_) (fun ht => hcB ?_)) <;> (first | (simp only [Bool.true_eq_false, Bool.false_eq_true] at ht; done) | ((try simp only [Bool.not_eq_true', Bool.not_eq_false'] at ht); (try simp only [ht]); (try simp only [HTN] at ht); (try (exfalso; omega)))))
    | ((with_reducible refine W_regionI ?_); simp only [List.append_eq, List.cons_append, List.nil_append])
    | (with_reducible refine O_splitG fun cA cB hcA hcB => ?_))
        refine O_gr (S0 := S) (elem := 5) (size := 1) (bytes := 1) (n := i) (m := 1) (xs := u8v (lowL (s.data.toList.take i))) (ys := [.int .u8 (u.toNat : Int)]) u25 sz5 by5 ze5 ⟨by decide, by decide, rfl⟩ (by simp only [EVB, Nat.reduceEqDiff, reduceIte, e3]; exact hG.keep (KpL.push _ _)) (by simp only [EVB, Nat.reduceEqDiff, reduceIte]; exact gx _) ⟨rfl, rfl⟩ (by omega) fun v' S' hG' => ?_
        rw [← hlc, hfin] at hG'
        repeat' (first
    | (with_reducible first | refine W_pushC fun K hK => ?_ | refine W_blockI ?_ | refine W_scopeI ?_ | refine W_labelI ?_ | refine W_skipI ?_ | refine W_retI ?_ | refine W_exitI ?_ | refine then_normalI ?_ | refine then_retI ?_ | refine then_exitI ?_ | refine inBlock_normalI ?_ | refine inBlock_retI ?_ | refine inBlock_exitI ?_ | refine inBlock_exitN (by decide) ?_)
    | ((with_reducible first | refine bodyQ_normal0 ?_ | refine bodyQ_normal1 ?_ | refine bodyQ_normal2 ?_ | refine bodyQ_normal3 ?_ | refine bodyQ_normal4 ?_ | refine bodyQ_ret0 ?_ | refine bodyQ_ret1 ?_ | refine bodyQ_ret2 ?_ | refine bodyQ_ret3 ?_ | refine bodyQ_ret4 ?_); (try simp only [EVB, Nat.reduceEqDiff, reduceIte]))
    | (with_reducible refine Cont.use (by assumption) ?_)
    | (with_reducible first | refine hcA ?_ | refine hcB ?_)
    | ((with_reducible first | refine W_condG fun cA cB hcA hcB => ?_ | refine W_regionI ?_ | show O _ _ _ _ _ _ _ _ | show OK _ _ _ _ _ _ _ _ _ | show OKF _ _ _ _ _ _ _ _ _ _ | show OKT _ _ _ _ _ _ _ _ _ _ _ _ | show _ ∧ _ | show CG _ _ _ | show CB _ _ _); simp (disch := first | ((with_reducible show isStop _ = false); rfl) | ((with_reducible show isP _ = true); rfl) | ((with_reducible show (isStop _ || isP _) = false); rfl) | assumption | (simp only [GSB, Nat.reduceEqDiff, reduceIte]; done) | omega | (with_reducible decide) | (simp only [DSB, Go.Proofs.YtdmbgbennlnpcaaDoorAbs.oneC, Go.Proofs.YtdmbgbennlnpcaaDoorAbs.St.next_withLow, Nat.reduceAdd, Nat.reduceLeDiff] <;> omega) | fail) only [↓DN, ↓reduceIte, UP, CGB, Int.reduceEq, Int.reduceLT, Int.reduceLE, Nat.reduceEqDiff, Nat.reduceAdd, Nat.reduceMul, Nat.reduceSub, Int.reduceToNat, Nat.reduceLeDiff, PF, isStop, isP, goInt, beq_self_eq_true, decide_true, decide_false, Int.toNat_natCast, Int.natCast_zero, e0, e4, wi])
    | ((with_reducible refine CB_intro (fun ht => hcA ?_) (fun ht => hcB ?_)) <;> (first | (simp only [Bool.true_eq_false, Bool.false_eq_true] at ht; done) | ((try simp only [Bool.not_eq_true', Bool.not_eq_false'] at ht); (try simp only [ht]); (try simp only [HTN] at ht); (try (exfalso; omega)))))
    | ((with_reducible refine W_regionI ?_); simp only [List.append_eq, List.cons_append, List.nil_append])
    | (with_reducible refine O_splitG fun cA cB hcA hcB => ?_)
    | ((refine ⟨_, ?_, i + 1, v', by simp only [EVB, Nat.reduceEqDiff, reduceIte, e0], by simp only [EVB, Nat.reduceEqDiff, reduceIte], by simp only [EVB, Nat.reduceEqDiff, reduceIte, wi], by omega, rfl, hG'⟩; omega)))
      · have d1 : decide ((65 : Int) ≤ (u.toNat : Int)) = false := decide_eq_false h65
        repeat' (first
    | (with_reducible first | refine W_pushC fun K hK => ?_ | refine W_blockI ?_ | refine W_scopeI ?_ | refine W_labelI ?_ | refine W_skipI ?_ | refine W_retI ?_ | refine W_exitI ?_ | refine then_normalI ?_ | refine then_retI ?_ | refine then_exitI ?_ | refine inBlock_normalI ?_ | refine inBlock_retI ?_ | refine inBlock_exitI ?_ | refine inBlock_exitN (by decide) ?_)
    | ((with_reducible first | refine bodyQ_normal0 ?_ | refine bodyQ_normal1 ?_ | refine bodyQ_normal2 ?_ | refine bodyQ_normal3 ?_ | refine bodyQ_normal4 ?_ | refine bodyQ_ret0 ?_ | refine bodyQ_ret1 ?_ | refine bodyQ_ret2 ?_ | refine bodyQ_ret3 ?_ | refine bodyQ_ret4 ?_); (try simp only [EVB, Nat.reduceEqDiff, reduceIte]))
    | (with_reducible refine Cont.use (by assumption) ?_)
    | (with_reducible first | refine hcA ?_ | refine hcB ?_)
    | ((with_reducible first | refine W_condG fun cA cB hcA hcB => ?_ | refine W_regionI ?_ | show O _ _ _ _ _ _ _ _ | show OK _ _ _ _ _ _ _ _ _ | show OKF _ _ _ _ _ _ _ _ _ _ | show OKT _ _ _ _ _ _ _ _ _ _ _ _ | show _ ∧ _ | show CG _ _ _ | show CB _ _ _); simp (disch := first | ((with_reducible show isStop _ = false); rfl) | ((with_reducible show isP _ = true); rfl) | ((with_reducible show (isStop _ || isP _) = false); rfl) | assumption | (simp only [GSB, Nat.reduceEqDiff, reduceIte]; done) | omega | (with_reducible decide) | (simp only [DSB, Go.Proofs.YtdmbgbennlnpcaaDoorAbs.oneC, Go.Proofs.YtdmbgbennlnpcaaDoorAbs.St.next_withLow, Nat.reduceAdd, Nat.reduceLeDiff] <;> omega) | fail) only [↓DN, ↓reduceIte, UP, CGB, Int.reduceEq, Int.reduceLT, Int.reduceLE, Nat.reduceEqDiff, Nat.reduceAdd, Nat.reduceMul, Nat.reduceSub, Int.reduceToNat, Nat.reduceLeDiff, PF, isStop, isP, goInt, beq_self_eq_true, decide_true, decide_false, Int.toNat_natCast, Int.natCast_zero, hd, e0, e3, e4, hix, d1, bs])
    | ((with_reducible refine CB_intro (fun ht => hcA ?_) (fun ht => hcB ?_)) <;> (first | (simp only [Bool.true_eq_false, Bool.false_eq_true] at ht; done) | ((try simp only [Bool.not_eq_true', Bool.not_eq_false'] at ht); (try simp only [ht]); (try simp only [HTN] at ht); (try (exfalso; omega)))))
    | ((with_reducible refine W_regionI ?_); simp only [List.append_eq, List.cons_append, List.nil_append])
    | (with_reducible refine O_splitG fun cA cB hcA hcB => ?_))
        refine O_gr (S0 := S) (elem := 5) (size := 1) (bytes := 1) (n := i) (m := 1) (xs := u8v (lowL (s.data.toList.take i))) (ys := [.int .u8 (u.toNat : Int)]) u25 sz5 by5 ze5 ⟨by decide, by decide, rfl⟩ (by simp only [EVB, Nat.reduceEqDiff, reduceIte, e3]; exact hG.keep (KpL.push _ _)) (by simp only [EVB, Nat.reduceEqDiff, reduceIte]; exact gx _) ⟨rfl, rfl⟩ (by omega) fun v' S' hG' => ?_
        rw [← hlc, hfin] at hG'
        repeat' (first
    | (with_reducible first | refine W_pushC fun K hK => ?_ | refine W_blockI ?_ | refine W_scopeI ?_ | refine W_labelI ?_ | refine W_skipI ?_ | refine W_retI ?_ | refine W_exitI ?_ | refine then_normalI ?_ | refine then_retI ?_ | refine then_exitI ?_ | refine inBlock_normalI ?_ | refine inBlock_retI ?_ | refine inBlock_exitI ?_ | refine inBlock_exitN (by decide) ?_)
    | ((with_reducible first | refine bodyQ_normal0 ?_ | refine bodyQ_normal1 ?_ | refine bodyQ_normal2 ?_ | refine bodyQ_normal3 ?_ | refine bodyQ_normal4 ?_ | refine bodyQ_ret0 ?_ | refine bodyQ_ret1 ?_ | refine bodyQ_ret2 ?_ | refine bodyQ_ret3 ?_ | refine bodyQ_ret4 ?_); (try simp only [EVB, Nat.reduceEqDiff, reduceIte]))
    | (with_reducible refine Cont.use (by assumption) ?_)
    | (with_reducible first | refine hcA ?_ | refine hcB ?_)
    | ((with_reducible first | refine W_condG fun cA cB hcA hcB => ?_ | refine W_regionI ?_ | show O _ _ _ _ _ _ _ _ | show OK _ _ _ _ _ _ _ _ _ | show OKF _ _ _ _ _ _ _ _ _ _ | show OKT _ _ _ _ _ _ _ _ _ _ _ _ | show _ ∧ _ | show CG _ _ _ | show CB _ _ _); simp (disch := first | ((with_reducible show isStop _ = false); rfl) | ((with_reducible show isP _ = true); rfl) | ((with_reducible show (isStop _ || isP _) = false); rfl) | assumption | (simp only [GSB, Nat.reduceEqDiff, reduceIte]; done) | omega | (with_reducible decide) | (simp only [DSB, Go.Proofs.YtdmbgbennlnpcaaDoorAbs.oneC, Go.Proofs.YtdmbgbennlnpcaaDoorAbs.St.next_withLow, Nat.reduceAdd, Nat.reduceLeDiff] <;> omega) | fail) only [↓DN, ↓reduceIte, UP, CGB, Int.reduceEq, Int.reduceLT, Int.reduceLE, Nat.reduceEqDiff, Nat.reduceAdd, Nat.reduceMul, Nat.reduceSub, Int.reduceToNat, Nat.reduceLeDiff, PF, isStop, isP, goInt, beq_self_eq_true, decide_true, decide_false, Int.toNat_natCast, Int.natCast_zero, e0, e4, wi])
    | ((with_reducible refine CB_intro (fun ht => hcA ?_) (fun ht => hcB ?_)) <;> (first | (simp only [Bool.true_eq_false, Bool.false_eq_true] at ht; done) | ((try simp only [Bool.not_eq_true', Bool.not_eq_false'] at ht); (try simp only [ht]); (try simp only [HTN] at ht); (try (exfalso; omega)))))
    | ((with_reducible refine W_regionI ?_); simp only [List.append_eq, List.cons_append, List.nil_append])
    | (with_reducible refine O_splitG fun cA cB hcA hcB => ?_)
    | ((refine ⟨_, ?_, i + 1, v', by simp only [EVB, Nat.reduceEqDiff, reduceIte, e0], by simp only [EVB, Nat.reduceEqDiff, reduceIte], by simp only [EVB, Nat.reduceEqDiff, reduceIte, wi], by omega, rfl, hG'⟩; omega)))
  · have hd : decide ((i : Int) < (s.size : Int)) = false := decide_eq_false (by omega)
    have hO := hG.own
    rw [List.take_of_length_le (by omega)] at hO
    have hc := conv_any (S := S1) (v := v) (xs := lowL s.data.toList) (by rw [low_len, show s.data.toList.length = i by omega]; exact hO)
    have hr : (⟨(lowL s.data.toList).toArray⟩ : ByteArray) = lowB s := rfl
    rw [hr] at hc
    have hq := hQ _ hG.kp
    repeat' (first
    | (with_reducible first | refine W_pushC fun K hK => ?_ | refine W_blockI ?_ | refine W_scopeI ?_ | refine W_labelI ?_ | refine W_skipI ?_ | refine W_retI ?_ | refine W_exitI ?_ | refine then_normalI ?_ | refine then_retI ?_ | refine then_exitI ?_ | refine inBlock_normalI ?_ | refine inBlock_retI ?_ | refine inBlock_exitI ?_ | refine inBlock_exitN (by decide) ?_)
    | ((with_reducible first | refine bodyQ_normal0 ?_ | refine bodyQ_normal1 ?_ | refine bodyQ_normal2 ?_ | refine bodyQ_normal3 ?_ | refine bodyQ_normal4 ?_ | refine bodyQ_ret0 ?_ | refine bodyQ_ret1 ?_ | refine bodyQ_ret2 ?_ | refine bodyQ_ret3 ?_ | refine bodyQ_ret4 ?_); (try simp only [EVB, Nat.reduceEqDiff, reduceIte]))
    | (with_reducible refine Cont.use (by assumption) ?_)
    | (with_reducible first | refine hcA ?_ | refine hcB ?_)
    | ((with_reducible first | refine W_condG fun cA cB hcA hcB => ?_ | refine W_regionI ?_ | show O _ _ _ _ _ _ _ _ | show OK _ _ _ _ _ _ _ _ _ | show OKF _ _ _ _ _ _ _ _ _ _ | show OKT _ _ _ _ _ _ _ _ _ _ _ _ | show _ ∧ _ | show CG _ _ _ | show CB _ _ _); simp (disch := first | ((with_reducible show isStop _ = false); rfl) | ((with_reducible show isP _ = true); rfl) | ((with_reducible show (isStop _ || isP _) = false); rfl) | assumption | (simp only [GSB, Nat.reduceEqDiff, reduceIte]; done) | omega | (with_reducible decide) | (simp only [DSB, Go.Proofs.YtdmbgbennlnpcaaDoorAbs.oneC, Go.Proofs.YtdmbgbennlnpcaaDoorAbs.St.next_withLow, Nat.reduceAdd, Nat.reduceLeDiff] <;> omega) | fail) only [↓DN, ↓reduceIte, UP, CGB, Int.reduceEq, Int.reduceLT, Int.reduceLE, Nat.reduceEqDiff, Nat.reduceAdd, Nat.reduceMul, Nat.reduceSub, Int.reduceToNat, Nat.reduceLeDiff, PF, isStop, isP, goInt, beq_self_eq_true, decide_true, decide_false, Int.toNat_natCast, Int.natCast_zero, hd, e0, e3, e4, hc])
    | ((with_reducible refine CB_intro (fun ht => hcA ?_) (fun ht => hcB ?_)) <;> (first | (simp only [Bool.true_eq_false, Bool.false_eq_true] at ht; done) | ((try simp only [Bool.not_eq_true', Bool.not_eq_false'] at ht); (try simp only [ht]); (try simp only [HTN] at ht); (try (exfalso; omega)))))
    | ((with_reducible refine W_regionI ?_); simp only [List.append_eq, List.cons_append, List.nil_append])
    | (with_reducible refine O_splitG fun cA cB hcA hcB => ?_)
    | (exact hq))
theorem Same_L (h : HP I) {a b : ByteArray} (ha : a.size ≤ 1099511627776) (hb : b.size ≤ 1099511627776) (hQ : ∀ S', KpL S S' → Q (.bool (sameB a b)) S') : C Tryd.prog I 64 #[.string a, .string b] S Q := by
  refine C_body (rs := [.tmp 4]) (h.no 64 (by decide)) Tryd.func64 rfl rfl ok64 ?_
  obtain ⟨sz24, u9, sz3, u3, sz9, sz22, u22, u25, sz5, u5, sz38, u4, sz49, sz50, u58, u70, sz85, sz98, u103, sz25, u114, sz113, u88, sz27, sz108, u108, sz4, sz96, u96, u2, sz123, u123, sz130, u130, u139, sz103, u140, sz141, u142, u141, u21⟩ := UF
  have ea := lowB_size a
  have eb := lowB_size b
  by_cases hz : a.size = b.size
  · have d : decide ((a.size : Int) = (b.size : Int)) = true := decide_eq_true (by omega)
    have hs := str_dec (lowB a) (lowB b)
    repeat' (first
    | (with_reducible first | refine W_pushC fun K hK => ?_ | refine W_blockI ?_ | refine W_scopeI ?_ | refine W_labelI ?_ | refine W_skipI ?_ | refine W_retI ?_ | refine W_exitI ?_ | refine then_normalI ?_ | refine then_retI ?_ | refine then_exitI ?_ | refine inBlock_normalI ?_ | refine inBlock_retI ?_ | refine inBlock_exitI ?_ | refine inBlock_exitN (by decide) ?_)
    | ((with_reducible first | refine bodyQ_normal0 ?_ | refine bodyQ_normal1 ?_ | refine bodyQ_normal2 ?_ | refine bodyQ_normal3 ?_ | refine bodyQ_normal4 ?_ | refine bodyQ_ret0 ?_ | refine bodyQ_ret1 ?_ | refine bodyQ_ret2 ?_ | refine bodyQ_ret3 ?_ | refine bodyQ_ret4 ?_); (try simp only [EVB, Nat.reduceEqDiff, reduceIte]))
    | (with_reducible refine Cont.use (by assumption) ?_)
    | (with_reducible first | refine hcA ?_ | refine hcB ?_)
    | ((with_reducible first | refine W_condG fun cA cB hcA hcB => ?_ | refine W_regionI ?_ | show O _ _ _ _ _ _ _ _ | show OK _ _ _ _ _ _ _ _ _ | show OKF _ _ _ _ _ _ _ _ _ _ | show OKT _ _ _ _ _ _ _ _ _ _ _ _ | show _ ∧ _ | show CG _ _ _ | show CB _ _ _); simp (disch := first | ((with_reducible show isStop _ = false); rfl) | ((with_reducible show isP _ = true); rfl) | ((with_reducible show (isStop _ || isP _) = false); rfl) | assumption | (simp only [GSB, Nat.reduceEqDiff, reduceIte]; done) | omega | (with_reducible decide) | (simp only [DSB, Go.Proofs.YtdmbgbennlnpcaaDoorAbs.oneC, Go.Proofs.YtdmbgbennlnpcaaDoorAbs.St.next_withLow, Nat.reduceAdd, Nat.reduceLeDiff] <;> omega) | fail) only [↓DN, ↓reduceIte, UP, CGB, Int.reduceEq, Int.reduceLT, Int.reduceLE, Nat.reduceEqDiff, Nat.reduceAdd, Nat.reduceMul, Nat.reduceSub, Int.reduceToNat, Nat.reduceLeDiff, PF, isStop, isP, goInt, beq_self_eq_true, decide_true, decide_false, Int.toNat_natCast, Int.natCast_zero, d])
    | ((with_reducible refine CB_intro (fun ht => hcA ?_) (fun ht => hcB ?_)) <;> (first | (simp only [Bool.true_eq_false, Bool.false_eq_true] at ht; done) | ((try simp only [Bool.not_eq_true', Bool.not_eq_false'] at ht); (try simp only [ht]); (try simp only [HTN] at ht); (try (exfalso; omega)))))
    | ((with_reducible refine W_regionI ?_); simp only [List.append_eq, List.cons_append, List.nil_append])
    | (with_reducible refine O_splitG fun cA cB hcA hcB => ?_))
    refine Lower_L h ha fun S1 k1 => ?_
    repeat' (first
    | (with_reducible first | refine W_pushC fun K hK => ?_ | refine W_blockI ?_ | refine W_scopeI ?_ | refine W_labelI ?_ | refine W_skipI ?_ | refine W_retI ?_ | refine W_exitI ?_ | refine then_normalI ?_ | refine then_retI ?_ | refine then_exitI ?_ | refine inBlock_normalI ?_ | refine inBlock_retI ?_ | refine inBlock_exitI ?_ | refine inBlock_exitN (by decide) ?_)
    | ((with_reducible first | refine bodyQ_normal0 ?_ | refine bodyQ_normal1 ?_ | refine bodyQ_normal2 ?_ | refine bodyQ_normal3 ?_ | refine bodyQ_normal4 ?_ | refine bodyQ_ret0 ?_ | refine bodyQ_ret1 ?_ | refine bodyQ_ret2 ?_ | refine bodyQ_ret3 ?_ | refine bodyQ_ret4 ?_); (try simp only [EVB, Nat.reduceEqDiff, reduceIte]))
    | (with_reducible refine Cont.use (by assumption) ?_)
    | (with_reducible first | refine hcA ?_ | refine hcB ?_)
    | ((with_reducible first | refine W_condG fun cA cB hcA hcB => ?_ | refine W_regionI ?_ | show O _ _ _ _ _ _ _ _ | show OK _ _ _ _ _ _ _ _ _ | show OKF _ _ _ _ _ _ _ _ _ _ | show OKT _ _ _ _ _ _ _ _ _ _ _ _ | show _ ∧ _ | show CG _ _ _ | show CB _ _ _); simp (disch := first | ((with_reducible show isStop _ = false); rfl) | ((with_reducible show isP _ = true); rfl) | ((with_reducible show (isStop _ || isP _) = false); rfl) | assumption | (simp only [GSB, Nat.reduceEqDiff, reduceIte]; done) | omega | (with_reducible decide) | (simp only [DSB, Go.Proofs.YtdmbgbennlnpcaaDoorAbs.oneC, Go.Proofs.YtdmbgbennlnpcaaDoorAbs.St.next_withLow, Nat.reduceAdd, Nat.reduceLeDiff] <;> omega) | fail) only [↓DN, ↓reduceIte, UP, CGB, Int.reduceEq, Int.reduceLT, Int.reduceLE, Nat.reduceEqDiff, Nat.reduceAdd, Nat.reduceMul, Nat.reduceSub, Int.reduceToNat, Nat.reduceLeDiff, PF, isStop, isP, goInt, beq_self_eq_true, decide_true, decide_false, Int.toNat_natCast, Int.natCast_zero, d])
    | ((with_reducible refine CB_intro (fun ht => hcA ?_) (fun ht => hcB ?_)) <;> (first | (simp only [Bool.true_eq_false, Bool.false_eq_true] at ht; done) | ((try simp only [Bool.not_eq_true', Bool.not_eq_false'] at ht); (try simp only [ht]); (try simp only [HTN] at ht); (try (exfalso; omega)))))
    | ((with_reducible refine W_regionI ?_); simp only [List.append_eq, List.cons_append, List.nil_append])
    | (with_reducible refine O_splitG fun cA cB hcA hcB => ?_))
    refine Lower_L h hb fun S2 k2 => ?_
    have hq := hQ _ (k1.trans k2)
    simp only [sameB] at hq
    repeat' (first
    | (with_reducible first | refine W_pushC fun K hK => ?_ | refine W_blockI ?_ | refine W_scopeI ?_ | refine W_labelI ?_ | refine W_skipI ?_ | refine W_retI ?_ | refine W_exitI ?_ | refine then_normalI ?_ | refine then_retI ?_ | refine then_exitI ?_ | refine inBlock_normalI ?_ | refine inBlock_retI ?_ | refine inBlock_exitI ?_ | refine inBlock_exitN (by decide) ?_)
    | ((with_reducible first | refine bodyQ_normal0 ?_ | refine bodyQ_normal1 ?_ | refine bodyQ_normal2 ?_ | refine bodyQ_normal3 ?_ | refine bodyQ_normal4 ?_ | refine bodyQ_ret0 ?_ | refine bodyQ_ret1 ?_ | refine bodyQ_ret2 ?_ | refine bodyQ_ret3 ?_ | refine bodyQ_ret4 ?_); (try simp only [EVB, Nat.reduceEqDiff, reduceIte]))
    | (with_reducible refine Cont.use (by assumption) ?_)
    | (with_reducible first | refine hcA ?_ | refine hcB ?_)
    | ((with_reducible first | refine W_condG fun cA cB hcA hcB => ?_ | refine W_regionI ?_ | show O _ _ _ _ _ _ _ _ | show OK _ _ _ _ _ _ _ _ _ | show OKF _ _ _ _ _ _ _ _ _ _ | show OKT _ _ _ _ _ _ _ _ _ _ _ _ | show _ ∧ _ | show CG _ _ _ | show CB _ _ _); simp (disch := first | ((with_reducible show isStop _ = false); rfl) | ((with_reducible show isP _ = true); rfl) | ((with_reducible show (isStop _ || isP _) = false); rfl) | assumption | (simp only [GSB, Nat.reduceEqDiff, reduceIte]; done) | omega | (with_reducible decide) | (simp only [DSB, Go.Proofs.YtdmbgbennlnpcaaDoorAbs.oneC, Go.Proofs.YtdmbgbennlnpcaaDoorAbs.St.next_withLow, Nat.reduceAdd, Nat.reduceLeDiff] <;> omega) | fail) only [↓DN, ↓reduceIte, UP, CGB, Int.reduceEq, Int.reduceLT, Int.reduceLE, Nat.reduceEqDiff, Nat.reduceAdd, Nat.reduceMul, Nat.reduceSub, Int.reduceToNat, Nat.reduceLeDiff, PF, isStop, isP, goInt, beq_self_eq_true, decide_true, decide_false, Int.toNat_natCast, Int.natCast_zero, d, hs])
    | ((with_reducible refine CB_intro (fun ht => hcA ?_) (fun ht => hcB ?_)) <;> (first | (simp only [Bool.true_eq_false, Bool.false_eq_true] at ht; done) | ((try simp only [Bool.not_eq_true', Bool.not_eq_false'] at ht); (try simp only [ht]); (try simp only [HTN] at ht); (try (exfalso; omega)))))
    | ((with_reducible refine W_regionI ?_); simp only [List.append_eq, List.cons_append, List.nil_append])
    | (with_reducible refine O_splitG fun cA cB hcA hcB => ?_)
    | (exact hq))
  · have d : decide ((a.size : Int) = (b.size : Int)) = false := decide_eq_false (by omega)
    have hs : sameB a b = false := decide_eq_false fun q => hz (by rw [← ea, ← eb, q])
    have hq := hQ _ (KpL.refl _)
    rw [hs] at hq
    repeat' (first
    | (with_reducible first | refine W_pushC fun K hK => ?_ | refine W_blockI ?_ | refine W_scopeI ?_ | refine W_labelI ?_ | refine W_skipI ?_ | refine W_retI ?_ | refine W_exitI ?_ | refine then_normalI ?_ | refine then_retI ?_ | refine then_exitI ?_ | refine inBlock_normalI ?_ | refine inBlock_retI ?_ | refine inBlock_exitI ?_ | refine inBlock_exitN (by decide) ?_)
    | ((with_reducible first | refine bodyQ_normal0 ?_ | refine bodyQ_normal1 ?_ | refine bodyQ_normal2 ?_ | refine bodyQ_normal3 ?_ | refine bodyQ_normal4 ?_ | refine bodyQ_ret0 ?_ | refine bodyQ_ret1 ?_ | refine bodyQ_ret2 ?_ | refine bodyQ_ret3 ?_ | refine bodyQ_ret4 ?_); (try simp only [EVB, Nat.reduceEqDiff, reduceIte]))
    | (with_reducible refine Cont.use (by assumption) ?_)
    | (with_reducible first | refine hcA ?_ | refine hcB ?_)
    | ((with_reducible first | refine W_condG fun cA cB hcA hcB => ?_ | refine W_regionI ?_ | show O _ _ _ _ _ _ _ _ | show OK _ _ _ _ _ _ _ _ _ | show OKF _ _ _ _ _ _ _ _ _ _ | show OKT _ _ _ _ _ _ _ _ _ _ _ _ | show _ ∧ _ | show CG _ _ _ | show CB _ _ _); simp (disch := first | ((with_reducible show isStop _ = false); rfl) | ((with_reducible show isP _ = true); rfl) | ((with_reducible show (isStop _ || isP _) = false); rfl) | assumption | (simp only [GSB, Nat.reduceEqDiff, reduceIte]; done) | omega | (with_reducible decide) | (simp only [DSB, Go.Proofs.YtdmbgbennlnpcaaDoorAbs.oneC, Go.Proofs.YtdmbgbennlnpcaaDoorAbs.St.next_withLow, Nat.reduceAdd, Nat.reduceLeDiff] <;> omega) | fail) only [↓DN, ↓reduceIte, UP, CGB, Int.reduceEq, Int.reduceLT, Int.reduceLE, Nat.reduceEqDiff, Nat.reduceAdd, Nat.reduceMul, Nat.reduceSub, Int.reduceToNat, Nat.reduceLeDiff, PF, isStop, isP, goInt, beq_self_eq_true, decide_true, decide_false, Int.toNat_natCast, Int.natCast_zero, d])
    | ((with_reducible refine CB_intro (fun ht => hcA ?_) (fun ht => hcB ?_)) <;> (first | (simp only [Bool.true_eq_false, Bool.false_eq_true] at ht; done) | ((try simp only [Bool.not_eq_true', Bool.not_eq_false'] at ht); (try simp only [ht]); (try simp only [HTN] at ht); (try (exfalso; omega)))))
    | ((with_reducible refine W_regionI ?_); simp only [List.append_eq, List.cons_append, List.nil_append])
    | (with_reducible refine O_splitG fun cA cB hcA hcB => ?_)
    | (exact hq))
theorem RSame_L (h : HP I) {a b : ByteArray} (ha : a.size ≤ 1099511627776) (hb : b.size ≤ 1099511627776) (hQ : ∀ S', KpL S S' → Q (.bool (sameB a b)) S') : C Tryd.prog I 32 #[.string a, .string b] S Q := by
  refine C_body (rs := [.tmp 4]) (h.no 32 (by decide)) Tryd.func32 rfl rfl ok32 ?_
  obtain ⟨sz24, u9, sz3, u3, sz9, sz22, u22, u25, sz5, u5, sz38, u4, sz49, sz50, u58, u70, sz85, sz98, u103, sz25, u114, sz113, u88, sz27, sz108, u108, sz4, sz96, u96, u2, sz123, u123, sz130, u130, u139, sz103, u140, sz141, u142, u141, u21⟩ := UF
  have hs := str_dec (lowB a) (lowB b)
  repeat' (first
    | (with_reducible first | refine W_pushC fun K hK => ?_ | refine W_blockI ?_ | refine W_scopeI ?_ | refine W_labelI ?_ | refine W_skipI ?_ | refine W_retI ?_ | refine W_exitI ?_ | refine then_normalI ?_ | refine then_retI ?_ | refine then_exitI ?_ | refine inBlock_normalI ?_ | refine inBlock_retI ?_ | refine inBlock_exitI ?_ | refine inBlock_exitN (by decide) ?_)
    | ((with_reducible first | refine bodyQ_normal0 ?_ | refine bodyQ_normal1 ?_ | refine bodyQ_normal2 ?_ | refine bodyQ_normal3 ?_ | refine bodyQ_normal4 ?_ | refine bodyQ_ret0 ?_ | refine bodyQ_ret1 ?_ | refine bodyQ_ret2 ?_ | refine bodyQ_ret3 ?_ | refine bodyQ_ret4 ?_); (try simp only [EVB, Nat.reduceEqDiff, reduceIte]))
    | (with_reducible refine Cont.use (by assumption) ?_)
    | (with_reducible first | refine hcA ?_ | refine hcB ?_)
    | ((with_reducible first | refine W_condG fun cA cB hcA hcB => ?_ | refine W_regionI ?_ | show O _ _ _ _ _ _ _ _ | show OK _ _ _ _ _ _ _ _ _ | show OKF _ _ _ _ _ _ _ _ _ _ | show OKT _ _ _ _ _ _ _ _ _ _ _ _ | show _ ∧ _ | show CG _ _ _ | show CB _ _ _); simp (disch := first | ((with_reducible show isStop _ = false); rfl) | ((with_reducible show isP _ = true); rfl) | ((with_reducible show (isStop _ || isP _) = false); rfl) | assumption | (simp only [GSB, Nat.reduceEqDiff, reduceIte]; done) | omega | (with_reducible decide) | (simp only [DSB, Go.Proofs.YtdmbgbennlnpcaaDoorAbs.oneC, Go.Proofs.YtdmbgbennlnpcaaDoorAbs.St.next_withLow, Nat.reduceAdd, Nat.reduceLeDiff] <;> omega) | fail) only [↓DN, ↓reduceIte, UP, CGB, Int.reduceEq, Int.reduceLT, Int.reduceLE, Nat.reduceEqDiff, Nat.reduceAdd, Nat.reduceMul, Nat.reduceSub, Int.reduceToNat, Nat.reduceLeDiff, PF, isStop, isP, goInt, beq_self_eq_true, decide_true, decide_false, Int.toNat_natCast, Int.natCast_zero])
    | ((with_reducible refine CB_intro (fun ht => hcA ?_) (fun ht => hcB ?_)) <;> (first | (simp only [Bool.true_eq_false, Bool.false_eq_true] at ht; done) | ((try simp only [Bool.not_eq_true', Bool.not_eq_false'] at ht); (try simp only [ht]); (try simp only [HTN] at ht); (try (exfalso; omega)))))
    | ((with_reducible refine W_regionI ?_); simp only [List.append_eq, List.cons_append, List.nil_append])
    | (with_reducible refine O_splitG fun cA cB hcA hcB => ?_))
  refine RLower_L h ha fun S1 k1 => ?_
  repeat' (first
    | (with_reducible first | refine W_pushC fun K hK => ?_ | refine W_blockI ?_ | refine W_scopeI ?_ | refine W_labelI ?_ | refine W_skipI ?_ | refine W_retI ?_ | refine W_exitI ?_ | refine then_normalI ?_ | refine then_retI ?_ | refine then_exitI ?_ | refine inBlock_normalI ?_ | refine inBlock_retI ?_ | refine inBlock_exitI ?_ | refine inBlock_exitN (by decide) ?_)
    | ((with_reducible first | refine bodyQ_normal0 ?_ | refine bodyQ_normal1 ?_ | refine bodyQ_normal2 ?_ | refine bodyQ_normal3 ?_ | refine bodyQ_normal4 ?_ | refine bodyQ_ret0 ?_ | refine bodyQ_ret1 ?_ | refine bodyQ_ret2 ?_ | refine bodyQ_ret3 ?_ | refine bodyQ_ret4 ?_); (try simp only [EVB, Nat.reduceEqDiff, reduceIte]))
    | (with_reducible refine Cont.use (by assumption) ?_)
    | (with_reducible first | refine hcA ?_ | refine hcB ?_)
    | ((with_reducible first | refine W_condG fun cA cB hcA hcB => ?_ | refine W_regionI ?_ | show O _ _ _ _ _ _ _ _ | show OK _ _ _ _ _ _ _ _ _ | show OKF _ _ _ _ _ _ _ _ _ _ | show OKT _ _ _ _ _ _ _ _ _ _ _ _ | show _ ∧ _ | show CG _ _ _ | show CB _ _ _); simp (disch := first | ((with_reducible show isStop _ = false); rfl) | ((with_reducible show isP _ = true); rfl) | ((with_reducible show (isStop _ || isP _) = false); rfl) | assumption | (simp only [GSB, Nat.reduceEqDiff, reduceIte]; done) | omega | (with_reducible decide) | (simp only [DSB, Go.Proofs.YtdmbgbennlnpcaaDoorAbs.oneC, Go.Proofs.YtdmbgbennlnpcaaDoorAbs.St.next_withLow, Nat.reduceAdd, Nat.reduceLeDiff] <;> omega) | fail) only [↓DN, ↓reduceIte, UP, CGB, Int.reduceEq, Int.reduceLT, Int.reduceLE, Nat.reduceEqDiff, Nat.reduceAdd, Nat.reduceMul, Nat.reduceSub, Int.reduceToNat, Nat.reduceLeDiff, PF, isStop, isP, goInt, beq_self_eq_true, decide_true, decide_false, Int.toNat_natCast, Int.natCast_zero])
    | ((with_reducible refine CB_intro (fun ht => hcA ?_) (fun ht => hcB ?_)) <;> (first | (simp only [Bool.true_eq_false, Bool.false_eq_true] at ht; done) | ((try simp only [Bool.not_eq_true', Bool.not_eq_false'] at ht); (try simp only [ht]); (try simp only [HTN] at ht); (try (exfalso; omega)))))
    | ((with_reducible refine W_regionI ?_); simp only [List.append_eq, List.cons_append, List.nil_append])
    | (with_reducible refine O_splitG fun cA cB hcA hcB => ?_))
  refine RLower_L h hb fun S2 k2 => ?_
  have hq := hQ _ (k1.trans k2)
  simp only [sameB] at hq
  repeat' (first
    | (with_reducible first | refine W_pushC fun K hK => ?_ | refine W_blockI ?_ | refine W_scopeI ?_ | refine W_labelI ?_ | refine W_skipI ?_ | refine W_retI ?_ | refine W_exitI ?_ | refine then_normalI ?_ | refine then_retI ?_ | refine then_exitI ?_ | refine inBlock_normalI ?_ | refine inBlock_retI ?_ | refine inBlock_exitI ?_ | refine inBlock_exitN (by decide) ?_)
    | ((with_reducible first | refine bodyQ_normal0 ?_ | refine bodyQ_normal1 ?_ | refine bodyQ_normal2 ?_ | refine bodyQ_normal3 ?_ | refine bodyQ_normal4 ?_ | refine bodyQ_ret0 ?_ | refine bodyQ_ret1 ?_ | refine bodyQ_ret2 ?_ | refine bodyQ_ret3 ?_ | refine bodyQ_ret4 ?_); (try simp only [EVB, Nat.reduceEqDiff, reduceIte]))
    | (with_reducible refine Cont.use (by assumption) ?_)
    | (with_reducible first | refine hcA ?_ | refine hcB ?_)
    | ((with_reducible first | refine W_condG fun cA cB hcA hcB => ?_ | refine W_regionI ?_ | show O _ _ _ _ _ _ _ _ | show OK _ _ _ _ _ _ _ _ _ | show OKF _ _ _ _ _ _ _ _ _ _ | show OKT _ _ _ _ _ _ _ _ _ _ _ _ | show _ ∧ _ | show CG _ _ _ | show CB _ _ _); simp (disch := first | ((with_reducible show isStop _ = false); rfl) | ((with_reducible show isP _ = true); rfl) | ((with_reducible show (isStop _ || isP _) = false); rfl) | assumption | (simp only [GSB, Nat.reduceEqDiff, reduceIte]; done) | omega | (with_reducible decide) | (simp only [DSB, Go.Proofs.YtdmbgbennlnpcaaDoorAbs.oneC, Go.Proofs.YtdmbgbennlnpcaaDoorAbs.St.next_withLow, Nat.reduceAdd, Nat.reduceLeDiff] <;> omega) | fail) only [↓DN, ↓reduceIte, UP, CGB, Int.reduceEq, Int.reduceLT, Int.reduceLE, Nat.reduceEqDiff, Nat.reduceAdd, Nat.reduceMul, Nat.reduceSub, Int.reduceToNat, Nat.reduceLeDiff, PF, isStop, isP, goInt, beq_self_eq_true, decide_true, decide_false, Int.toNat_natCast, Int.natCast_zero, hs])
    | ((with_reducible refine CB_intro (fun ht => hcA ?_) (fun ht => hcB ?_)) <;> (first | (simp only [Bool.true_eq_false, Bool.false_eq_true] at ht; done) | ((try simp only [Bool.not_eq_true', Bool.not_eq_false'] at ht); (try simp only [ht]); (try simp only [HTN] at ht); (try (exfalso; omega)))))
    | ((with_reducible refine W_regionI ?_); simp only [List.append_eq, List.cons_append, List.nil_append])
    | (with_reducible refine O_splitG fun cA cB hcA hcB => ?_)
    | (exact hq))
end
end Go.Proofs.YtdmbgbennlnpcaaDoor.Q
namespace Go.Proofs.YtdmbgbennlnpcaaDoor.Q
open Go Go.Proofs.YtdmbgbennlnpcaaDoorAbs Go.Proofs
set_option linter.unusedVariables false
set_option linter.unusedSimpArgs false
set_option maxRecDepth 100000
set_option maxHeartbeats 4000000
attribute [local irreducible] Go.Proofs.YtdmbgbennlnpcaaDoorAbs.O Go.Proofs.YtdmbgbennlnpcaaDoorAbs.W Go.Proofs.YtdmbgbennlnpcaaDoorAbs.C Go.Proofs.YtdmbgbennlnpcaaDoorAbs.OK Go.Proofs.YtdmbgbennlnpcaaDoorAbs.OKF Go.Proofs.YtdmbgbennlnpcaaDoorAbs.OKT Go.Proofs.YtdmbgbennlnpcaaDoorAbs.then_ Go.Proofs.YtdmbgbennlnpcaaDoorAbs.inBlock_ Go.Proofs.YtdmbgbennlnpcaaDoorAbs.bodyQ Go.Proofs.YtdmbgbennlnpcaaDoorAbs.Cont
section
variable {P : Program} {I : Prims} {ops : Array Oper} {r : List Oper} {Q : Env → St → Prop} {e : Env} {S S0 : St} {dst : Option Tmp} {ty : TypeId} {pos : String} {after : Array Edge}
theorem append_cap {t tx elem size bytes n m b o L c : Nat} {z x : Value} {xs ys : List Value} (hu : P.underlying t = some (.slice elem)) (hs : asize P elem = some size) (hb : abytes P elem = some bytes) (hz : azero P elem = some z)
    (hc : 0 < size ∧ 0 < bytes ∧ z.cells.size = size) (hcu : c < UNK) (hcn : c < n + m) (hr : (if n = 0 then some [] else aread S ⟨b, o, some L⟩ (n * size)) = some xs) (hxl : xs.length = n * size) (hx1 : xs.all oneC = true) (hx : asrc P S tx size x = some (m, ys)) (hm : 0 < m) (hy : ys.length = m * size ∧ ys.all oneC = true) (hl : (3 * (n + m) + 2048) * bytes ≤ 281474976710656) :
    ∃ v' S', aappend P S t tx (.slice (some ⟨b, o, some L⟩) n c) x = some (v', S') ∧ Gr elem size S S' v' (n + m) (xs ++ ys) := by
  have h1 : ¬ c = UNK + size := by omega
  have h2 : ¬ UNK ≤ c := by omega
  refine ⟨.slice (some ⟨S.next, 0, some (xs.length + ys.length)⟩) (n + m) (UNK + size), S.push ⟨xs ++ ys, elem, true, 0⟩, ?_, KpL.push _ _, ⟨?_, ?_, .inr ⟨S.next, 0, ?_, S.get_push_self _, Nat.zero_le _, by simp, by omega⟩⟩, fun i hi => by cases hi; exact Nat.le_refl _⟩
  · simp only [aappend, hu, hs, hb, hz, hc, and_self, if_true, hx, if_neg (show ¬ m = 0 by omega), if_neg h1, if_neg h2, if_neg (show ¬ n + m ≤ c by omega), hr]
    rw [if_pos ⟨hl, hcn, hx1⟩]
  · rw [List.length_append, hxl, hy.1, Nat.add_mul]
  · rw [List.all_append, hx1, hy.2]; rfl
  · rw [List.length_append]
theorem O_app {s x : Operand} {t tx : TypeId} {v' : Value} {S' : St} (ha : aappend P S t tx (e.ev s) (e.ev x) = some (v', S')) (hk : O P I ops r [] Q (e.putO dst v') S') : O P I ops (⟨dst, .call ⟨.builtin .append, #[s, x], #[t, tx]⟩, ty, pos, after, none⟩ :: r) [] Q e S := by
  rw [O_step rfl]
  have : aop P e.ev ⟨dst, .call ⟨.builtin .append, #[s, x], #[t, tx]⟩, ty, pos, after, none⟩ S = some (v', S') := by
    rw [aop_builtin]
    show alt (aappend P S t tx (e.ev s) (e.ev x)) _ = _
    rw [ha, alt_some]
  rw [this]
  exact ⟨rfl, hk⟩
theorem O_cap {s x : Operand} {t tx elem size bytes n m b o L c : Nat} {z : Value} {xs ys : List Value} (hu : P.underlying t = some (.slice elem)) (hs : asize P elem = some size) (hb : abytes P elem = some bytes) (hz : azero P elem = some z)
    (hc : 0 < size ∧ 0 < bytes ∧ z.cells.size = size) (hv : e.ev s = .slice (some ⟨b, o, some L⟩) n c) (hcu : c < UNK) (hcn : c < n + m) (hr : (if n = 0 then some [] else aread S ⟨b, o, some L⟩ (n * size)) = some xs) (hxl : xs.length = n * size) (hx1 : xs.all oneC = true) (hx : asrc P S tx size (e.ev x) = some (m, ys)) (hm : 0 < m) (hy : ys.length = m * size ∧ ys.all oneC = true) (hl : (3 * (n + m) + 2048) * bytes ≤ 281474976710656)
    (hk : ∀ v' S', Gr elem size S S' v' (n + m) (xs ++ ys) → O P I ops r [] Q (e.putO dst v') S') :
    O P I ops (⟨dst, .call ⟨.builtin .append, #[s, x], #[t, tx]⟩, ty, pos, after, none⟩ :: r) [] Q e S := by
  obtain ⟨v', S', h1, h2⟩ := append_cap hu hs hb hz hc hcu hcn hr hxl hx1 hx hm hy hl
  rw [O_step rfl]
  have : aop P e.ev ⟨dst, .call ⟨.builtin .append, #[s, x], #[t, tx]⟩, ty, pos, after, none⟩ S = some (v', S') := by
    rw [aop_builtin]
    show alt (aappend P S t tx (e.ev s) (e.ev x)) _ = _
    rw [hv, h1, alt_some]
  rw [this]
  exact ⟨rfl, hk v' S' h2⟩
theorem O_capF {fl : List Bool} {s x : Operand} {t tx elem size bytes n m b o L c : Nat} {z : Value} {xs ys : List Value} (hu : P.underlying t = some (.slice elem)) (hs : asize P elem = some size) (hb : abytes P elem = some bytes) (hz : azero P elem = some z)
    (hc : 0 < size ∧ 0 < bytes ∧ z.cells.size = size) (hv : e.ev s = .slice (some ⟨b, o, some L⟩) n c) (hcu : c < UNK) (hcn : c < n + m) (hr : (if n = 0 then some [] else aread S ⟨b, o, some L⟩ (n * size)) = some xs) (hxl : xs.length = n * size) (hx1 : xs.all oneC = true) (hx : asrc P S tx size (e.ev x) = some (m, ys)) (hm : 0 < m) (hy : ys.length = m * size ∧ ys.all oneC = true) (hl : (3 * (n + m) + 2048) * bytes ≤ 281474976710656)
    (hk : ∀ v' S', Gr elem size S S' v' (n + m) (xs ++ ys) → O P I ops r fl Q (e.putO dst v') S') :
    O P I ops (⟨dst, .call ⟨.builtin .append, #[s, x], #[t, tx]⟩, ty, pos, after, none⟩ :: r) (false :: fl) Q e S := by
  obtain ⟨v', S', h1, h2⟩ := append_cap hu hs hb hz hc hcu hcn hr hxl hx1 hx hm hy hl
  unfold O
  rw [if_pos (show wants ops ⟨dst, .call ⟨.builtin .append, #[s, x], #[t, tx]⟩, ty, pos, after, none⟩ e = true from rfl)]
  refine ⟨v', S', ?_, hk v' S' h2⟩
  rw [aop_builtin]
  show alt (aappend P S t tx (e.ev s) (e.ev x)) _ = _
  rw [hv, h1, alt_some]
theorem O_grF {fl : List Bool} {s x : Operand} {t tx elem size bytes n m : Nat} {z : Value} {xs ys : List Value} (hu : P.underlying t = some (.slice elem)) (hs : asize P elem = some size) (hb : abytes P elem = some bytes) (hz : azero P elem = some z)
    (hc : 0 < size ∧ 0 < bytes ∧ z.cells.size = size) (ha : Gr elem size S0 S (e.ev s) n xs) (hx : asrc P S tx size (e.ev x) = some (m, ys)) (hy : ys.length = m * size ∧ ys.all oneC = true) (hl : (3 * (n + m) + 2048) * bytes ≤ 281474976710656)
    (hk : ∀ v' S', Gr elem size S0 S' v' (n + m) (xs ++ ys) → O P I ops r fl Q (e.putO dst v') S') : O P I ops (⟨dst, .call ⟨.builtin .append, #[s, x], #[t, tx]⟩, ty, pos, after, none⟩ :: r) (false :: fl) Q e S := by
  obtain ⟨v', S', h1, h2, h3, h4, h5⟩ := append_ownL hu hs hb hz hc ha.own hx hy hl
  unfold O
  rw [if_pos (show wants ops ⟨dst, .call ⟨.builtin .append, #[s, x], #[t, tx]⟩, ty, pos, after, none⟩ e = true from rfl)]
  refine ⟨v', S', ?_, hk v' S' (ha.step h2 h3 h4 h5)⟩
  rw [aop_builtin]
  show alt (aappend P S t tx (e.ev s) (e.ev x)) _ = _
  rw [h1, alt_some]
end
def SR (S : St) (v : Value) (l : List Fld) : Prop := (∃ a k, v = .slice a 0 k ∧ l = [] ∧ (a = none → k = 0)) ∨ ∃ b o L k m cs el own, v = .slice (some ⟨b, o, some L⟩) l.length k ∧ S.get b = some ⟨cs, el, own, m⟩ ∧ (own = true → m ≤ L ∧ o + l.length * 2 ≤ L) ∧ (cs.drop o).take (l.length * 2) = fldv l ∧ o + l.length * 2 ≤ cs.length ∧ b < S.next
theorem SR.kept {S S' : St} {v : Value} {l : List Fld} (h : SR S v l) (k : Kept S S' none) : SR S' v l := by
  rcases h with h | ⟨b, o, L, c, m, cs, el, own, h1, h2, h3, h4, h5, h6⟩
  · exact .inl h
  · exact .inr ⟨b, o, L, c, m, cs, el, own, h1, (k.2 b h6 (by simp)).trans h2, h3, h4, h5, Nat.lt_of_lt_of_le h6 k.1⟩
theorem SR.src {S : St} {v : Value} {l : List Fld} (h : SR S v l) : asrc Tryd.prog S 22 2 v = some (l.length, fldv l) := by
  rcases h with ⟨a, c, rfl, rfl, hz⟩ | ⟨b, o, L, c, m, cs, el, own, rfl, h2, h3, h4, h5, h6⟩
  · cases a with
    | none => obtain rfl := hz rfl; simp [asrc, u22, fldv]
    | some a => simp [asrc, u22, fldv]
  · simp only [asrc, u22]
    by_cases hn : l.length = 0
    · have : l = [] := List.length_eq_zero_iff.1 hn
      subst this; rfl
    · rw [if_neg hn]
      have hr : aread S ⟨b, o, some L⟩ (l.length * 2) = some (fldv l) := by
        unfold aread
        simp only [h2]
        rw [if_pos ⟨h3, h5⟩, h4]
      simp only [hr, fldv_one, if_true]
theorem SR.rd {S : St} {b o L k : Nat} {n : Nat} {l : List Fld} (h : SR S (.slice (some ⟨b, o, some L⟩) n k) l) : (if n = 0 then some [] else aread S ⟨b, o, some L⟩ (n * 2)) = some (fldv l) ∧ n = l.length := by
  rcases h with ⟨a, c, q, rfl, hz⟩ | ⟨b', o', L', c, m, cs, el, own, e, h2, h3, h4, h5, h6⟩
  · cases q; exact ⟨rfl, rfl⟩
  · cases e
    refine ⟨?_, rfl⟩
    by_cases hn : l.length = 0
    · have : l = [] := List.length_eq_zero_iff.1 hn
      subst this; rfl
    · rw [if_neg hn]
      unfold aread
      simp only [h2]
      rw [if_pos ⟨h3, h5⟩, h4]
theorem SR.own {S : St} {v : Value} {l : List Fld} (h : Own 50 2 S v l.length (fldv l)) : SR S v l := by
  have hl := fldv_len l
  rcases h.2.2 with ⟨q, hz⟩ | ⟨b, m, q, h2, h3, h4, _⟩
  · exact .inl ⟨none, 0, q, List.length_eq_zero_iff.1 hz, fun _ => rfl⟩
  · exact .inr ⟨b, 0, _, _, m, fldv l, 50, true, q, h2, fun _ => ⟨h3, by omega⟩, by rw [List.drop_zero]; exact List.take_of_length_le (by omega), by omega, h4⟩
theorem SR.sf {S : St} {v : Value} {l : List Fld} (h : SF S v l) : SR S v l := by
  have hl := fldv_len l
  rcases h with ⟨b, q, h2, h3⟩ | h
  · exact .inr ⟨b, 0, 0, _, 0, fldv l, 0, false, q, h2, fun z => (by cases z), by rw [List.drop_zero]; exact List.take_of_length_le (by omega), by omega, h3⟩
  · exact SR.own h
theorem fldv_drop (l : List Fld) : ∀ i, (fldv l).drop (i * 2) = fldv (l.drop i) := by
  induction l with
  | nil => intro i; simp [fldv]
  | cons f l ih =>
    intro i
    cases i with
    | zero => rfl
    | succ i =>
      rw [show (i + 1) * 2 = i * 2 + 1 + 1 by omega]
      exact ih i
theorem fldv_take (l : List Fld) : ∀ i, (fldv l).take (i * 2) = fldv (l.take i) := by
  induction l with
  | nil => intro i; simp [fldv]
  | cons f l ih =>
    intro i
    cases i with
    | zero => rfl
    | succ i =>
      rw [show (i + 1) * 2 = i * 2 + 1 + 1 by omega]
      have := ih i
      show Value.string f.1 :: Value.string f.2 :: (fldv l).take (i * 2) = _
      rw [this]; rfl
theorem SR.from {S : St} {b o L k n j k' : Nat} {l : List Fld} (h : SR S (.slice (some ⟨b, o, some L⟩) n k) l) (hj : j ≤ l.length) : SR S (.slice (some ⟨b, o + j * 2, some L⟩) (n - j) k') (l.drop j) := by
  rcases h with ⟨a, c, q, rfl, hz⟩ | ⟨b', o', L', c, m, cs, el, own, e, h2, h3, h4, h5, h6⟩
  · cases q; exact .inl ⟨_, k', by rw [Nat.zero_sub], by simp, fun z => (by cases z)⟩
  · cases e
    have hd : (l.drop j).length = l.length - j := by simp
    refine .inr ⟨b, o + j * 2, L, k', m, cs, el, own, by rw [hd], h2, fun z => ⟨(h3 z).1, by have := (h3 z).2; rw [hd]; omega⟩, ?_, by rw [hd]; omega, h6⟩
    rw [hd, ← fldv_drop, ← h4, List.drop_take, List.drop_drop]
    congr 1; omega
theorem SR.upto {S : St} {b o L k n j k' : Nat} {l : List Fld} (h : SR S (.slice (some ⟨b, o, some L⟩) n k) l) (hj : j ≤ l.length) : SR S (.slice (some ⟨b, o, some L⟩) j k') (l.take j) := by
  rcases h with ⟨a, c, q, rfl, hz⟩ | ⟨b', o', L', c, m, cs, el, own, e, h2, h3, h4, h5, h6⟩
  · cases q
    have : j = 0 := by simpa using hj
    subst this
    exact .inl ⟨_, k', rfl, by simp, fun z => (by cases z)⟩
  · cases e
    have hd : (l.take j).length = j := by simp; omega
    refine .inr ⟨b, o, L, k', m, cs, el, own, by rw [hd], h2, fun z => ⟨(h3 z).1, by have := (h3 z).2; rw [hd]; omega⟩, ?_, by rw [hd]; omega, h6⟩
    rw [hd, ← fldv_take, ← h4, List.take_take]
    congr 1; omega
theorem SR.rf {S : St} {v : Value} {l : List Fld} (h : SR S v l) (h0 : ∀ b o L k, v = .slice (some ⟨b, o, some L⟩) l.length k → o = 0) : RF S v l := by
  rcases h with ⟨a, c, rfl, rfl, hz⟩ | ⟨b, o, L, c, m, cs, el, own, rfl, h2, h3, h4, h5, h6⟩
  · exact ⟨a, c, rfl, fun i hi => by simp at hi⟩
  · have := h0 b o L c rfl
    subst this
    refine ⟨_, _, rfl, fun i hi => ⟨b, L, rfl, ?_, h6⟩⟩
    have hat := fldv_at l i hi
    rw [← h4, List.drop_zero, List.drop_take, List.take_take, show min 2 (l.length * 2 - i * 2) = 2 by omega] at hat
    rw [h2]
    unfold Go.Proofs.YtdmbgbennlnpcaaDoorAbs.rowAt
    simp only
    rw [if_pos ⟨fun z => ⟨(h3 z).1, by have := (h3 z).2; omega⟩, by omega⟩, hat]
section
variable {I : Prims} {S S0 : St} {c : Int} {Q : Value → St → Prop} {e : Env}
def isN (name : ByteArray) (f : Fld) : Bool := sameB f.1 name
def nmV (p : Nat) : Value := .func (.func 85) #[] #[.pointer (some ⟨p, 0, some 1⟩)]
theorem named_L (h : HP I) {name : ByteArray} (hQ : ∀ S', KpL S S' → S'.get S.next = some ⟨[.string name], 9, true, 0⟩ → S.next < S'.next → Q (nmV S.next) S') : C Tryd.prog I 55 #[.string name] S Q := by
  refine C_body (rs := [.tmp 2]) (h.no 55 (by decide)) Tryd.func55 rfl rfl ok55 ?_
  obtain ⟨sz24, u9, sz3, u3, sz9, sz22, u22, u25, sz5, u5, sz38, u4, sz49, sz50, u58, u70, sz85, sz98, u103, sz25, u114, sz113, u88, sz27, sz108, u108, sz4, sz96, u96, u2, sz123, u123, sz130, u130, u139, sz103, u140, sz141, u142, u141, u21⟩ := UF
  have hq := hQ _ (KpL.push S ⟨[.string name], 9, true, 0⟩) (St.get_push_self _ _) (Nat.lt_succ_self _)
  repeat' (first
    | (with_reducible first | refine W_pushC fun K hK => ?_ | refine W_blockI ?_ | refine W_scopeI ?_ | refine W_labelI ?_ | refine W_skipI ?_ | refine W_retI ?_ | refine W_exitI ?_ | refine then_normalI ?_ | refine then_retI ?_ | refine then_exitI ?_ | refine inBlock_normalI ?_ | refine inBlock_retI ?_ | refine inBlock_exitI ?_ | refine inBlock_exitN (by decide) ?_)
    | ((with_reducible first | refine bodyQ_normal0 ?_ | refine bodyQ_normal1 ?_ | refine bodyQ_normal2 ?_ | refine bodyQ_normal3 ?_ | refine bodyQ_normal4 ?_ | refine bodyQ_ret0 ?_ | refine bodyQ_ret1 ?_ | refine bodyQ_ret2 ?_ | refine bodyQ_ret3 ?_ | refine bodyQ_ret4 ?_); (try simp only [EVB, Nat.reduceEqDiff, reduceIte]))
    | (with_reducible refine Cont.use (by assumption) ?_)
    | (with_reducible first | refine hcA ?_ | refine hcB ?_)
    | ((with_reducible first | refine W_condG fun cA cB hcA hcB => ?_ | refine W_regionI ?_ | show O _ _ _ _ _ _ _ _ | show OK _ _ _ _ _ _ _ _ _ | show OKF _ _ _ _ _ _ _ _ _ _ | show OKT _ _ _ _ _ _ _ _ _ _ _ _ | show _ ∧ _ | show CG _ _ _ | show CB _ _ _); simp (disch := first | ((with_reducible show isStop _ = false); rfl) | ((with_reducible show isP _ = true); rfl) | ((with_reducible show (isStop _ || isP _) = false); rfl) | assumption | (simp only [GSB, Nat.reduceEqDiff, reduceIte]; done) | omega | (with_reducible decide) | (simp only [DSB, Go.Proofs.YtdmbgbennlnpcaaDoorAbs.oneC, Go.Proofs.YtdmbgbennlnpcaaDoorAbs.St.next_withLow, Nat.reduceAdd, Nat.reduceLeDiff] <;> omega) | fail) only [↓DN, ↓reduceIte, UP, CGB, Int.reduceEq, Int.reduceLT, Int.reduceLE, Nat.reduceEqDiff, Nat.reduceAdd, Nat.reduceMul, Nat.reduceSub, Int.reduceToNat, Nat.reduceLeDiff, PF, isStop, isP, goInt, beq_self_eq_true, decide_true, decide_false, Int.toNat_natCast, Int.natCast_zero])
    | ((with_reducible refine CB_intro (fun ht => hcA ?_) (fun ht => hcB ?_)) <;> (first | (simp only [Bool.true_eq_false, Bool.false_eq_true] at ht; done) | ((try simp only [Bool.not_eq_true', Bool.not_eq_false'] at ht); (try simp only [ht]); (try simp only [HTN] at ht); (try (exfalso; omega)))))
    | ((with_reducible refine W_regionI ?_); simp only [List.append_eq, List.cons_append, List.nil_append])
    | (with_reducible refine O_splitG fun cA cB hcA hcB => ?_)
    | (exact hq))
theorem is_L (h : HP I) {p : Nat} {n v name : ByteArray} (hp : S.get p = some ⟨[.string name], 9, true, 0⟩) (hpn : p < S.next) (hn : n.size ≤ 1048576) (hm : name.size ≤ 1048576) (hQ : ∀ S', KpL S S' → Q (.bool (sameB n name)) S') : C Tryd.prog I 85 #[.agg #[.string n, .string v], .pointer (some ⟨p, 0, some 1⟩)] S Q := by
  refine C_body (rs := [.tmp 3]) (h.no 85 (by decide)) Tryd.func85 rfl rfl ok85 ?_
  obtain ⟨sz24, u9, sz3, u3, sz9, sz22, u22, u25, sz5, u5, sz38, u4, sz49, sz50, u58, u70, sz85, sz98, u103, sz25, u114, sz113, u88, sz27, sz108, u108, sz4, sz96, u96, u2, sz123, u123, sz130, u130, u139, sz103, u140, sz141, u142, u141, u21⟩ := UF
  have hp' : ∀ B, (S.push B).get p = some ⟨[.string name], 9, true, 0⟩ := fun B => by rw [St.get_push_lt _ _ hpn]; exact hp
  repeat' (first
    | (with_reducible first | refine W_pushC fun K hK => ?_ | refine W_blockI ?_ | refine W_scopeI ?_ | refine W_labelI ?_ | refine W_skipI ?_ | refine W_retI ?_ | refine W_exitI ?_ | refine then_normalI ?_ | refine then_retI ?_ | refine then_exitI ?_ | refine inBlock_normalI ?_ | refine inBlock_retI ?_ | refine inBlock_exitI ?_ | refine inBlock_exitN (by decide) ?_)
    | ((with_reducible first | refine bodyQ_normal0 ?_ | refine bodyQ_normal1 ?_ | refine bodyQ_normal2 ?_ | refine bodyQ_normal3 ?_ | refine bodyQ_normal4 ?_ | refine bodyQ_ret0 ?_ | refine bodyQ_ret1 ?_ | refine bodyQ_ret2 ?_ | refine bodyQ_ret3 ?_ | refine bodyQ_ret4 ?_); (try simp only [EVB, Nat.reduceEqDiff, reduceIte]))
    | ((with_reducible show C _ _ _ _ _ _); first | ((refine Same_L h (by omega) (by omega) fun S2 k2 => ?_)))
    | (with_reducible refine Cont.use (by assumption) ?_)
    | (with_reducible first | refine hcA ?_ | refine hcB ?_)
    | ((with_reducible first | refine W_condG fun cA cB hcA hcB => ?_ | refine W_regionI ?_ | show O _ _ _ _ _ _ _ _ | show OK _ _ _ _ _ _ _ _ _ | show OKF _ _ _ _ _ _ _ _ _ _ | show OKT _ _ _ _ _ _ _ _ _ _ _ _ | show _ ∧ _ | show CG _ _ _ | show CB _ _ _); simp (disch := first | ((with_reducible show isStop _ = false); rfl) | ((with_reducible show isP _ = true); rfl) | ((with_reducible show (isStop _ || isP _) = false); rfl) | assumption | (simp only [GSB, Nat.reduceEqDiff, reduceIte]; done) | omega | (with_reducible decide) | (simp only [DSB, Go.Proofs.YtdmbgbennlnpcaaDoorAbs.oneC, Go.Proofs.YtdmbgbennlnpcaaDoorAbs.St.next_withLow, Nat.reduceAdd, Nat.reduceLeDiff] <;> omega) | fail) only [↓DN, ↓reduceIte, UP, CGB, Int.reduceEq, Int.reduceLT, Int.reduceLE, Nat.reduceEqDiff, Nat.reduceAdd, Nat.reduceMul, Nat.reduceSub, Int.reduceToNat, Nat.reduceLeDiff, PF, isStop, isP, goInt, beq_self_eq_true, decide_true, decide_false, Int.toNat_natCast, Int.natCast_zero, hp])
    | ((with_reducible refine CB_intro (fun ht => hcA ?_) (fun ht => hcB ?_)) <;> (first | (simp only [Bool.true_eq_false, Bool.false_eq_true] at ht; done) | ((try simp only [Bool.not_eq_true', Bool.not_eq_false'] at ht); (try simp only [ht]); (try simp only [HTN] at ht); (try (exfalso; omega)))))
    | ((with_reducible refine W_regionI ?_); simp only [List.append_eq, List.cons_append, List.nil_append])
    | (with_reducible refine O_splitG fun cA cB hcA hcB => ?_)
    | (exact hQ _ ((KpL.push _ _).trans k2)))
theorem Index_L (h : HP I) {v : Value} {l : List Fld} {p : Nat} {name : ByteArray} (hF : RF S v l) (hp : S.get p = some ⟨[.string name], 9, true, 0⟩) (hpn : p < S.next) (hn : l.length ≤ 1048576) (hsz : ∀ f ∈ l, f.1.size ≤ 1048576 ∧ f.2.size ≤ 1048576) (hm : name.size ≤ 1048576)
    (hQ1 : ∀ (i : Nat) S', KpL S S' → (hi : i < l.length) → isN name l[i] = true → (∀ f ∈ l.take i, isN name f = false) → Q (.int .i64 i) S') (hQ0 : ∀ S', KpL S S' → (∀ f ∈ l, isN name f = false) → Q (.int .i64 (-1)) S') : C Tryd.prog I 54 #[v, nmV p] S Q := by
  refine C_body (rs := [.tmp 4]) (h.no 54 (by decide)) Tryd.func54 rfl rfl ok54 ?_
  obtain ⟨sz24, u9, sz3, u3, sz9, sz22, u22, u25, sz5, u5, sz38, u4, sz49, sz50, u58, u70, sz85, sz98, u103, sz25, u114, sz113, u88, sz27, sz108, u108, sz4, sz96, u96, u2, sz123, u123, sz130, u130, u139, sz103, u140, sz141, u142, u141, u21⟩ := UF
  obtain ⟨a, k, ev, hrow⟩ := hF
  subst ev
  have cv : callable Tryd.prog 85 = true := by kernel_rfl
  repeat' (first
    | (with_reducible first | refine W_pushC fun K hK => ?_ | refine W_blockI ?_ | refine W_scopeI ?_ | refine W_labelI ?_ | refine W_skipI ?_ | refine W_retI ?_ | refine W_exitI ?_ | refine then_normalI ?_ | refine then_retI ?_ | refine then_exitI ?_ | refine inBlock_normalI ?_ | refine inBlock_retI ?_ | refine inBlock_exitI ?_ | refine inBlock_exitN (by decide) ?_)
    | ((with_reducible first | refine bodyQ_normal0 ?_ | refine bodyQ_normal1 ?_ | refine bodyQ_normal2 ?_ | refine bodyQ_normal3 ?_ | refine bodyQ_normal4 ?_ | refine bodyQ_ret0 ?_ | refine bodyQ_ret1 ?_ | refine bodyQ_ret2 ?_ | refine bodyQ_ret3 ?_ | refine bodyQ_ret4 ?_); (try simp only [EVB, Nat.reduceEqDiff, reduceIte]))
    | (with_reducible refine Cont.use (by assumption) ?_)
    | (with_reducible first | refine hcA ?_ | refine hcB ?_)
    | ((with_reducible first | refine W_condG fun cA cB hcA hcB => ?_ | refine W_regionI ?_ | show O _ _ _ _ _ _ _ _ | show OK _ _ _ _ _ _ _ _ _ | show OKF _ _ _ _ _ _ _ _ _ _ | show OKT _ _ _ _ _ _ _ _ _ _ _ _ | show _ ∧ _ | show CG _ _ _ | show CB _ _ _); simp (disch := first | ((with_reducible show isStop _ = false); rfl) | ((with_reducible show isP _ = true); rfl) | ((with_reducible show (isStop _ || isP _) = false); rfl) | assumption | (simp only [GSB, Nat.reduceEqDiff, reduceIte]; done) | omega | (with_reducible decide) | (simp only [DSB, Go.Proofs.YtdmbgbennlnpcaaDoorAbs.oneC, Go.Proofs.YtdmbgbennlnpcaaDoorAbs.St.next_withLow, Nat.reduceAdd, Nat.reduceLeDiff] <;> omega) | fail) only [↓DN, ↓reduceIte, UP, CGB, Int.reduceEq, Int.reduceLT, Int.reduceLE, Nat.reduceEqDiff, Nat.reduceAdd, Nat.reduceMul, Nat.reduceSub, Int.reduceToNat, Nat.reduceLeDiff, PF, isStop, isP, goInt, beq_self_eq_true, decide_true, decide_false, Int.toNat_natCast, Int.natCast_zero])
    | ((with_reducible refine CB_intro (fun ht => hcA ?_) (fun ht => hcB ?_)) <;> (first | (simp only [Bool.true_eq_false, Bool.false_eq_true] at ht; done) | ((try simp only [Bool.not_eq_true', Bool.not_eq_false'] at ht); (try simp only [ht]); (try simp only [HTN] at ht); (try (exfalso; omega)))))
    | ((with_reducible refine W_regionI ?_); simp only [List.append_eq, List.cons_append, List.nil_append])
    | (with_reducible refine O_splitG fun cA cB hcA hcB => ?_))
  refine W_loop (fun z e S1 => ∃ i : Nat, e.get 0 = .slice a l.length k ∧ e.get 1 = nmV p ∧ e.get 7 = .int .i64 l.length ∧ e.get 8 = .int .i64 i ∧ i ≤ l.length ∧ z = l.length - i ∧ KpL S S1 ∧ ∀ f ∈ l.take i, isN name f = false) l.length ⟨0, by simp only [EVB, Nat.reduceEqDiff, reduceIte], by simp only [EVB, Nat.reduceEqDiff, reduceIte], by simp only [EVB, Nat.reduceEqDiff, reduceIte], by simp only [EVB, Nat.reduceEqDiff, reduceIte]; rfl, Nat.zero_le _, by simp, KpL.refl _, by simp⟩ ?_
  rintro z e S1 ⟨i, e0, e1, e7, e8, hi, hz, kS, hno⟩
  have wi : IntKind.i64.wrap ((i : Int) + 1) = ((i + 1 : Nat) : Int) := by rw [Go.Proofs.YtdmbgbennlnpcaaDoorAbs.wp64 (by omega) (by omega)]; omega
  by_cases hlt : i < l.length
  · have hd : decide ((i : Int) < (l.length : Int)) = true := decide_eq_true (by omega)
    obtain ⟨b, L, ea, hr, hbn⟩ := hrow i hlt
    subst ea
    rw [← kS.kept.2 b hbn (by simp)] at hr
    have hp1 := kS.kept.get hpn hp
    have hpn1 : p < S1.next := Nat.lt_of_lt_of_le hpn kS.1
    have hfs := hsz l[i] (List.getElem_mem hlt)
    simp only [nmV] at e1
    by_cases hs : isN name l[i] = true
    · have hs' : sameB (l[i]).1 name = true := hs
      repeat' (first
    | (with_reducible first | refine W_pushC fun K hK => ?_ | refine W_blockI ?_ | refine W_scopeI ?_ | refine W_labelI ?_ | refine W_skipI ?_ | refine W_retI ?_ | refine W_exitI ?_ | refine then_normalI ?_ | refine then_retI ?_ | refine then_exitI ?_ | refine inBlock_normalI ?_ | refine inBlock_retI ?_ | refine inBlock_exitI ?_ | refine inBlock_exitN (by decide) ?_)
    | ((with_reducible first | refine bodyQ_normal0 ?_ | refine bodyQ_normal1 ?_ | refine bodyQ_normal2 ?_ | refine bodyQ_normal3 ?_ | refine bodyQ_normal4 ?_ | refine bodyQ_ret0 ?_ | refine bodyQ_ret1 ?_ | refine bodyQ_ret2 ?_ | refine bodyQ_ret3 ?_ | refine bodyQ_ret4 ?_); (try simp only [EVB, Nat.reduceEqDiff, reduceIte]))
    | ((with_reducible show C _ _ _ _ _ _); first | ((refine is_L h hp1 hpn1 hfs.1 hm fun S2 k2 => ?_; rw [hs'])))
    | (with_reducible refine Cont.use (by assumption) ?_)
    | (with_reducible first | refine hcA ?_ | refine hcB ?_)
    | ((with_reducible first | refine W_condG fun cA cB hcA hcB => ?_ | refine W_regionI ?_ | show O _ _ _ _ _ _ _ _ | show OK _ _ _ _ _ _ _ _ _ | show OKF _ _ _ _ _ _ _ _ _ _ | show OKT _ _ _ _ _ _ _ _ _ _ _ _ | show _ ∧ _ | show CG _ _ _ | show CB _ _ _); simp (disch := first | ((with_reducible show isStop _ = false); rfl) | ((with_reducible show isP _ = true); rfl) | ((with_reducible show (isStop _ || isP _) = false); rfl) | assumption | (simp only [GSB, Nat.reduceEqDiff, reduceIte]; done) | omega | (with_reducible decide) | (simp only [DSB, Go.Proofs.YtdmbgbennlnpcaaDoorAbs.oneC, Go.Proofs.YtdmbgbennlnpcaaDoorAbs.St.next_withLow, Nat.reduceAdd, Nat.reduceLeDiff] <;> omega) | fail) only [↓DN, ↓reduceIte, UP, CGB, Int.reduceEq, Int.reduceLT, Int.reduceLE, Nat.reduceEqDiff, Nat.reduceAdd, Nat.reduceMul, Nat.reduceSub, Int.reduceToNat, Nat.reduceLeDiff, PF, isStop, isP, goInt, beq_self_eq_true, decide_true, decide_false, Int.toNat_natCast, Int.natCast_zero, hd, e0, e1, e7, e8, wi, hr, cv])
    | ((with_reducible refine CB_intro (fun ht => hcA ?_) (fun ht => hcB ?_)) <;> (first | (simp only [Bool.true_eq_false, Bool.false_eq_true] at ht; done) | ((try simp only [Bool.not_eq_true', Bool.not_eq_false'] at ht); (try simp only [ht]); (try simp only [HTN] at ht); (try (exfalso; omega)))))
    | ((with_reducible refine W_regionI ?_); simp only [List.append_eq, List.cons_append, List.nil_append])
    | (with_reducible refine O_splitG fun cA cB hcA hcB => ?_)
    | (exact hQ1 i _ (kS.trans k2) hlt hs hno))
    · have hs : isN name l[i] = false := by simpa using hs
      have hs' : sameB (l[i]).1 name = false := hs
      have hnx : ∀ f ∈ l.take (i + 1), isN name f = false := fun f hf => by
        rw [List.take_add_one, List.getElem?_eq_getElem hlt, List.mem_append] at hf
        rcases hf with hf | hf
        · exact hno f hf
        · simp at hf; rw [hf]; exact hs
      repeat' (first
    | (with_reducible first | refine W_pushC fun K hK => ?_ | refine W_blockI ?_ | refine W_scopeI ?_ | refine W_labelI ?_ | refine W_skipI ?_ | refine W_retI ?_ | refine W_exitI ?_ | refine then_normalI ?_ | refine then_retI ?_ | refine then_exitI ?_ | refine inBlock_normalI ?_ | refine inBlock_retI ?_ | refine inBlock_exitI ?_ | refine inBlock_exitN (by decide) ?_)
    | ((with_reducible first | refine bodyQ_normal0 ?_ | refine bodyQ_normal1 ?_ | refine bodyQ_normal2 ?_ | refine bodyQ_normal3 ?_ | refine bodyQ_normal4 ?_ | refine bodyQ_ret0 ?_ | refine bodyQ_ret1 ?_ | refine bodyQ_ret2 ?_ | refine bodyQ_ret3 ?_ | refine bodyQ_ret4 ?_); (try simp only [EVB, Nat.reduceEqDiff, reduceIte]))
    | ((with_reducible show C _ _ _ _ _ _); first | ((refine is_L h hp1 hpn1 hfs.1 hm fun S2 k2 => ?_; rw [hs'])))
    | (with_reducible refine Cont.use (by assumption) ?_)
    | (with_reducible first | refine hcA ?_ | refine hcB ?_)
    | ((with_reducible first | refine W_condG fun cA cB hcA hcB => ?_ | refine W_regionI ?_ | show O _ _ _ _ _ _ _ _ | show OK _ _ _ _ _ _ _ _ _ | show OKF _ _ _ _ _ _ _ _ _ _ | show OKT _ _ _ _ _ _ _ _ _ _ _ _ | show _ ∧ _ | show CG _ _ _ | show CB _ _ _); simp (disch := first | ((with_reducible show isStop _ = false); rfl) | ((with_reducible show isP _ = true); rfl) | ((with_reducible show (isStop _ || isP _) = false); rfl) | assumption | (simp only [GSB, Nat.reduceEqDiff, reduceIte]; done) | omega | (with_reducible decide) | (simp only [DSB, Go.Proofs.YtdmbgbennlnpcaaDoorAbs.oneC, Go.Proofs.YtdmbgbennlnpcaaDoorAbs.St.next_withLow, Nat.reduceAdd, Nat.reduceLeDiff] <;> omega) | fail) only [↓DN, ↓reduceIte, UP, CGB, Int.reduceEq, Int.reduceLT, Int.reduceLE, Nat.reduceEqDiff, Nat.reduceAdd, Nat.reduceMul, Nat.reduceSub, Int.reduceToNat, Nat.reduceLeDiff, PF, isStop, isP, goInt, beq_self_eq_true, decide_true, decide_false, Int.toNat_natCast, Int.natCast_zero, hd, e0, e1, e7, e8, wi, hr, cv])
    | ((with_reducible refine CB_intro (fun ht => hcA ?_) (fun ht => hcB ?_)) <;> (first | (simp only [Bool.true_eq_false, Bool.false_eq_true] at ht; done) | ((try simp only [Bool.not_eq_true', Bool.not_eq_false'] at ht); (try simp only [ht]); (try simp only [HTN] at ht); (try (exfalso; omega)))))
    | ((with_reducible refine W_regionI ?_); simp only [List.append_eq, List.cons_append, List.nil_append])
    | (with_reducible refine O_splitG fun cA cB hcA hcB => ?_)
    | ((refine ⟨_, ?_, i + 1, by simp only [EVB, Nat.reduceEqDiff, reduceIte, e0], by simp only [EVB, Nat.reduceEqDiff, reduceIte, e1]; rfl, by simp only [EVB, Nat.reduceEqDiff, reduceIte, e7], by simp only [EVB, Nat.reduceEqDiff, reduceIte], by omega, rfl, kS.trans k2, hnx⟩; omega)))
  · have hd : decide ((i : Int) < (l.length : Int)) = false := decide_eq_false (by omega)
    rw [List.take_of_length_le (by omega)] at hno
    repeat' (first
    | (with_reducible first | refine W_pushC fun K hK => ?_ | refine W_blockI ?_ | refine W_scopeI ?_ | refine W_labelI ?_ | refine W_skipI ?_ | refine W_retI ?_ | refine W_exitI ?_ | refine then_normalI ?_ | refine then_retI ?_ | refine then_exitI ?_ | refine inBlock_normalI ?_ | refine inBlock_retI ?_ | refine inBlock_exitI ?_ | refine inBlock_exitN (by decide) ?_)
    | ((with_reducible first | refine bodyQ_normal0 ?_ | refine bodyQ_normal1 ?_ | refine bodyQ_normal2 ?_ | refine bodyQ_normal3 ?_ | refine bodyQ_normal4 ?_ | refine bodyQ_ret0 ?_ | refine bodyQ_ret1 ?_ | refine bodyQ_ret2 ?_ | refine bodyQ_ret3 ?_ | refine bodyQ_ret4 ?_); (try simp only [EVB, Nat.reduceEqDiff, reduceIte]))
    | (with_reducible refine Cont.use (by assumption) ?_)
    | (with_reducible first | refine hcA ?_ | refine hcB ?_)
    | ((with_reducible first | refine W_condG fun cA cB hcA hcB => ?_ | refine W_regionI ?_ | show O _ _ _ _ _ _ _ _ | show OK _ _ _ _ _ _ _ _ _ | show OKF _ _ _ _ _ _ _ _ _ _ | show OKT _ _ _ _ _ _ _ _ _ _ _ _ | show _ ∧ _ | show CG _ _ _ | show CB _ _ _); simp (disch := first | ((with_reducible show isStop _ = false); rfl) | ((with_reducible show isP _ = true); rfl) | ((with_reducible show (isStop _ || isP _) = false); rfl) | assumption | (simp only [GSB, Nat.reduceEqDiff, reduceIte]; done) | omega | (with_reducible decide) | (simp only [DSB, Go.Proofs.YtdmbgbennlnpcaaDoorAbs.oneC, Go.Proofs.YtdmbgbennlnpcaaDoorAbs.St.next_withLow, Nat.reduceAdd, Nat.reduceLeDiff] <;> omega) | fail) only [↓DN, ↓reduceIte, UP, CGB, Int.reduceEq, Int.reduceLT, Int.reduceLE, Nat.reduceEqDiff, Nat.reduceAdd, Nat.reduceMul, Nat.reduceSub, Int.reduceToNat, Nat.reduceLeDiff, PF, isStop, isP, goInt, beq_self_eq_true, decide_true, decide_false, Int.toNat_natCast, Int.natCast_zero, hd, e0, e1, e7, e8])
    | ((with_reducible refine CB_intro (fun ht => hcA ?_) (fun ht => hcB ?_)) <;> (first | (simp only [Bool.true_eq_false, Bool.false_eq_true] at ht; done) | ((try simp only [Bool.not_eq_true', Bool.not_eq_false'] at ht); (try simp only [ht]); (try simp only [HTN] at ht); (try (exfalso; omega)))))
    | ((with_reducible refine W_regionI ?_); simp only [List.append_eq, List.cons_append, List.nil_append])
    | (with_reducible refine O_splitG fun cA cB hcA hcB => ?_)
    | (exact hQ0 _ kS hno))
end
end Go.Proofs.YtdmbgbennlnpcaaDoor.Q
namespace Go.Proofs.YtdmbgbennlnpcaaDoor.Q
open Go Go.Proofs.YtdmbgbennlnpcaaDoorAbs Go.Proofs
set_option linter.unusedVariables false
set_option linter.unusedSimpArgs false
set_option maxRecDepth 100000
set_option maxHeartbeats 4000000
attribute [local irreducible] Go.Proofs.YtdmbgbennlnpcaaDoorAbs.O Go.Proofs.YtdmbgbennlnpcaaDoorAbs.W Go.Proofs.YtdmbgbennlnpcaaDoorAbs.C Go.Proofs.YtdmbgbennlnpcaaDoorAbs.OK Go.Proofs.YtdmbgbennlnpcaaDoorAbs.OKF Go.Proofs.YtdmbgbennlnpcaaDoorAbs.OKT Go.Proofs.YtdmbgbennlnpcaaDoorAbs.then_ Go.Proofs.YtdmbgbennlnpcaaDoorAbs.inBlock_ Go.Proofs.YtdmbgbennlnpcaaDoorAbs.bodyQ Go.Proofs.YtdmbgbennlnpcaaDoorAbs.Cont
def getO (l : List Fld) (name : ByteArray) : Option Fld := l.find? (isN name)
def getS (l : List Fld) (name : ByteArray) : ByteArray := match getO l name with | some f => f.2 | none => ⟨#[]⟩
def getB (l : List Fld) (name : ByteArray) : Bool := (getO l name).isSome
def delF (l : List Fld) (name : ByteArray) : List Fld := l.filter fun f => !isN name f
theorem find_at {l : List Fld} {name : ByteArray} {i : Nat} (hi : i < l.length) (hs : isN name l[i] = true) (hno : ∀ f ∈ l.take i, isN name f = false) : getO l name = some l[i] := by
  have e : l = l.take i ++ l.drop i := (List.take_append_drop i l).symm
  have h1 : (l.take i).find? (isN name) = none := List.find?_eq_none.2 fun f hf => by simp [hno f hf]
  have h2 : l.drop i = l[i] :: l.drop (i + 1) := List.drop_eq_getElem_cons hi
  show l.find? (isN name) = _
  conv => lhs; rw [e]
  rw [List.find?_append, h1, h2, Option.none_or, List.find?_cons_of_pos hs]
theorem find_no {l : List Fld} {name : ByteArray} (hno : ∀ f ∈ l, isN name f = false) : getO l name = none := List.find?_eq_none.2 fun f hf => by simp [hno f hf]
section
variable {I : Prims} {S S0 : St} {c : Int} {Q : Value → St → Prop} {e : Env}
theorem Get_L (h : HP I) {v : Value} {l : List Fld} {name : ByteArray} (hF : RF S v l) (hn : l.length ≤ 1048576) (hsz : ∀ f ∈ l, f.1.size ≤ 1048576 ∧ f.2.size ≤ 1048576) (hm : name.size ≤ 1048576)
    (hQ : ∀ S', KpL S S' → Q (.tuple #[.string (getS l name), .bool (getB l name)]) S') : C Tryd.prog I 21 #[v, .string name] S Q := by
  refine C_body (rs := [.tmp 4, .tmp 5]) (h.no 21 (by decide)) Tryd.func21 rfl rfl ok21 ?_
  obtain ⟨sz24, u9, sz3, u3, sz9, sz22, u22, u25, sz5, u5, sz38, u4, sz49, sz50, u58, u70, sz85, sz98, u103, sz25, u114, sz113, u88, sz27, sz108, u108, sz4, sz96, u96, u2, sz123, u123, sz130, u130, u139, sz103, u140, sz141, u142, u141, u21⟩ := UF
  repeat' (first
    | (with_reducible first | refine W_pushC fun K hK => ?_ | refine W_blockI ?_ | refine W_scopeI ?_ | refine W_labelI ?_ | refine W_skipI ?_ | refine W_retI ?_ | refine W_exitI ?_ | refine then_normalI ?_ | refine then_retI ?_ | refine then_exitI ?_ | refine inBlock_normalI ?_ | refine inBlock_retI ?_ | refine inBlock_exitI ?_ | refine inBlock_exitN (by decide) ?_)
    | ((with_reducible first | refine bodyQ_normal0 ?_ | refine bodyQ_normal1 ?_ | refine bodyQ_normal2 ?_ | refine bodyQ_normal3 ?_ | refine bodyQ_normal4 ?_ | refine bodyQ_ret0 ?_ | refine bodyQ_ret1 ?_ | refine bodyQ_ret2 ?_ | refine bodyQ_ret3 ?_ | refine bodyQ_ret4 ?_); (try simp only [EVB, Nat.reduceEqDiff, reduceIte]))
    | (with_reducible refine Cont.use (by assumption) ?_)
    | (with_reducible first | refine hcA ?_ | refine hcB ?_)
    | ((with_reducible first | refine W_condG fun cA cB hcA hcB => ?_ | refine W_regionI ?_ | show O _ _ _ _ _ _ _ _ | show OK _ _ _ _ _ _ _ _ _ | show OKF _ _ _ _ _ _ _ _ _ _ | show OKT _ _ _ _ _ _ _ _ _ _ _ _ | show _ ∧ _ | show CG _ _ _ | show CB _ _ _); simp (disch := first | ((with_reducible show isStop _ = false); rfl) | ((with_reducible show isP _ = true); rfl) | ((with_reducible show (isStop _ || isP _) = false); rfl) | assumption | (simp only [GSB, Nat.reduceEqDiff, reduceIte]; done) | omega | (with_reducible decide) | (simp only [DSB, Go.Proofs.YtdmbgbennlnpcaaDoorAbs.oneC, Go.Proofs.YtdmbgbennlnpcaaDoorAbs.St.next_withLow, Nat.reduceAdd, Nat.reduceLeDiff] <;> omega) | fail) only [↓DN, ↓reduceIte, UP, CGB, Int.reduceEq, Int.reduceLT, Int.reduceLE, Nat.reduceEqDiff, Nat.reduceAdd, Nat.reduceMul, Nat.reduceSub, Int.reduceToNat, Nat.reduceLeDiff, PF, isStop, isP, goInt, beq_self_eq_true, decide_true, decide_false, Int.toNat_natCast, Int.natCast_zero])
    | ((with_reducible refine CB_intro (fun ht => hcA ?_) (fun ht => hcB ?_)) <;> (first | (simp only [Bool.true_eq_false, Bool.false_eq_true] at ht; done) | ((try simp only [Bool.not_eq_true', Bool.not_eq_false'] at ht); (try simp only [ht]); (try simp only [HTN] at ht); (try (exfalso; omega)))))
    | ((with_reducible refine W_regionI ?_); simp only [List.append_eq, List.cons_append, List.nil_append])
    | (with_reducible refine O_splitG fun cA cB hcA hcB => ?_))
  refine named_L h fun S1 k1 g1 n1 => ?_
  obtain ⟨a, k, ev, hrow⟩ := hF.kept k1.kept
  have hF1 := hF.kept k1.kept
  subst ev
  simp only [nmV]
  repeat' (first
    | (with_reducible first | refine W_pushC fun K hK => ?_ | refine W_blockI ?_ | refine W_scopeI ?_ | refine W_labelI ?_ | refine W_skipI ?_ | refine W_retI ?_ | refine W_exitI ?_ | refine then_normalI ?_ | refine then_retI ?_ | refine then_exitI ?_ | refine inBlock_normalI ?_ | refine inBlock_retI ?_ | refine inBlock_exitI ?_ | refine inBlock_exitN (by decide) ?_)
    | ((with_reducible first | refine bodyQ_normal0 ?_ | refine bodyQ_normal1 ?_ | refine bodyQ_normal2 ?_ | refine bodyQ_normal3 ?_ | refine bodyQ_normal4 ?_ | refine bodyQ_ret0 ?_ | refine bodyQ_ret1 ?_ | refine bodyQ_ret2 ?_ | refine bodyQ_ret3 ?_ | refine bodyQ_ret4 ?_); (try simp only [EVB, Nat.reduceEqDiff, reduceIte]))
    | (with_reducible refine Cont.use (by assumption) ?_)
    | (with_reducible first | refine hcA ?_ | refine hcB ?_)
    | ((with_reducible first | refine W_condG fun cA cB hcA hcB => ?_ | refine W_regionI ?_ | show O _ _ _ _ _ _ _ _ | show OK _ _ _ _ _ _ _ _ _ | show OKF _ _ _ _ _ _ _ _ _ _ | show OKT _ _ _ _ _ _ _ _ _ _ _ _ | show _ ∧ _ | show CG _ _ _ | show CB _ _ _); simp (disch := first | ((with_reducible show isStop _ = false); rfl) | ((with_reducible show isP _ = true); rfl) | ((with_reducible show (isStop _ || isP _) = false); rfl) | assumption | (simp only [GSB, Nat.reduceEqDiff, reduceIte]; done) | omega | (with_reducible decide) | (simp only [DSB, Go.Proofs.YtdmbgbennlnpcaaDoorAbs.oneC, Go.Proofs.YtdmbgbennlnpcaaDoorAbs.St.next_withLow, Nat.reduceAdd, Nat.reduceLeDiff] <;> omega) | fail) only [↓DN, ↓reduceIte, UP, CGB, Int.reduceEq, Int.reduceLT, Int.reduceLE, Nat.reduceEqDiff, Nat.reduceAdd, Nat.reduceMul, Nat.reduceSub, Int.reduceToNat, Nat.reduceLeDiff, PF, isStop, isP, goInt, beq_self_eq_true, decide_true, decide_false, Int.toNat_natCast, Int.natCast_zero])
    | ((with_reducible refine CB_intro (fun ht => hcA ?_) (fun ht => hcB ?_)) <;> (first | (simp only [Bool.true_eq_false, Bool.false_eq_true] at ht; done) | ((try simp only [Bool.not_eq_true', Bool.not_eq_false'] at ht); (try simp only [ht]); (try simp only [HTN] at ht); (try (exfalso; omega)))))
    | ((with_reducible refine W_regionI ?_); simp only [List.append_eq, List.cons_append, List.nil_append])
    | (with_reducible refine O_splitG fun cA cB hcA hcB => ?_))
  refine Index_L (p := S.next) h hF1 g1 n1 hn hsz hm (fun i S2 k2 hi hs hno => ?_) (fun S2 k2 hno => ?_)
  · have hd : decide ((0 : Int) ≤ (i : Int)) = true := decide_eq_true (by omega)
    obtain ⟨b, L, ea, hr, hbn⟩ := hrow i hi
    subst ea
    rw [← k2.kept.2 b hbn (by simp)] at hr
    obtain ⟨-, hr2⟩ := row2 hr
    have hg := find_at hi hs hno
    have hq := hQ _ (k1.trans k2)
    simp only [getS, getB, hg, Option.isSome_some] at hq
    repeat' (first
    | (with_reducible first | refine W_pushC fun K hK => ?_ | refine W_blockI ?_ | refine W_scopeI ?_ | refine W_labelI ?_ | refine W_skipI ?_ | refine W_retI ?_ | refine W_exitI ?_ | refine then_normalI ?_ | refine then_retI ?_ | refine then_exitI ?_ | refine inBlock_normalI ?_ | refine inBlock_retI ?_ | refine inBlock_exitI ?_ | refine inBlock_exitN (by decide) ?_)
    | ((with_reducible first | refine bodyQ_normal0 ?_ | refine bodyQ_normal1 ?_ | refine bodyQ_normal2 ?_ | refine bodyQ_normal3 ?_ | refine bodyQ_normal4 ?_ | refine bodyQ_ret0 ?_ | refine bodyQ_ret1 ?_ | refine bodyQ_ret2 ?_ | refine bodyQ_ret3 ?_ | refine bodyQ_ret4 ?_); (try simp only [EVB, Nat.reduceEqDiff, reduceIte]))
    | (with_reducible refine Cont.use (by assumption) ?_)
    | (with_reducible first | refine hcA ?_ | refine hcB ?_)
    | ((with_reducible first | refine W_condG fun cA cB hcA hcB => ?_ | refine W_regionI ?_ | show O _ _ _ _ _ _ _ _ | show OK _ _ _ _ _ _ _ _ _ | show OKF _ _ _ _ _ _ _ _ _ _ | show OKT _ _ _ _ _ _ _ _ _ _ _ _ | show _ ∧ _ | show CG _ _ _ | show CB _ _ _); simp (disch := first | ((with_reducible show isStop _ = false); rfl) | ((with_reducible show isP _ = true); rfl) | ((with_reducible show (isStop _ || isP _) = false); rfl) | assumption | (simp only [GSB, Nat.reduceEqDiff, reduceIte]; done) | omega | (with_reducible decide) | (simp only [DSB, Go.Proofs.YtdmbgbennlnpcaaDoorAbs.oneC, Go.Proofs.YtdmbgbennlnpcaaDoorAbs.St.next_withLow, Nat.reduceAdd, Nat.reduceLeDiff] <;> omega) | fail) only [↓DN, ↓reduceIte, UP, CGB, Int.reduceEq, Int.reduceLT, Int.reduceLE, Nat.reduceEqDiff, Nat.reduceAdd, Nat.reduceMul, Nat.reduceSub, Int.reduceToNat, Nat.reduceLeDiff, PF, isStop, isP, goInt, beq_self_eq_true, decide_true, decide_false, Int.toNat_natCast, Int.natCast_zero, hd, hr2])
    | ((with_reducible refine CB_intro (fun ht => hcA ?_) (fun ht => hcB ?_)) <;> (first | (simp only [Bool.true_eq_false, Bool.false_eq_true] at ht; done) | ((try simp only [Bool.not_eq_true', Bool.not_eq_false'] at ht); (try simp only [ht]); (try simp only [HTN] at ht); (try (exfalso; omega)))))
    | ((with_reducible refine W_regionI ?_); simp only [List.append_eq, List.cons_append, List.nil_append])
    | (with_reducible refine O_splitG fun cA cB hcA hcB => ?_)
    | (exact hq))
  · have hg := find_no hno
    have hq := hQ _ (k1.trans k2)
    simp only [getS, getB, hg, Option.isSome_none] at hq
    repeat' (first
    | (with_reducible first | refine W_pushC fun K hK => ?_ | refine W_blockI ?_ | refine W_scopeI ?_ | refine W_labelI ?_ | refine W_skipI ?_ | refine W_retI ?_ | refine W_exitI ?_ | refine then_normalI ?_ | refine then_retI ?_ | refine then_exitI ?_ | refine inBlock_normalI ?_ | refine inBlock_retI ?_ | refine inBlock_exitI ?_ | refine inBlock_exitN (by decide) ?_)
    | ((with_reducible first | refine bodyQ_normal0 ?_ | refine bodyQ_normal1 ?_ | refine bodyQ_normal2 ?_ | refine bodyQ_normal3 ?_ | refine bodyQ_normal4 ?_ | refine bodyQ_ret0 ?_ | refine bodyQ_ret1 ?_ | refine bodyQ_ret2 ?_ | refine bodyQ_ret3 ?_ | refine bodyQ_ret4 ?_); (try simp only [EVB, Nat.reduceEqDiff, reduceIte]))
    | (with_reducible refine Cont.use (by assumption) ?_)
    | (with_reducible first | refine hcA ?_ | refine hcB ?_)
    | ((with_reducible first | refine W_condG fun cA cB hcA hcB => ?_ | refine W_regionI ?_ | show O _ _ _ _ _ _ _ _ | show OK _ _ _ _ _ _ _ _ _ | show OKF _ _ _ _ _ _ _ _ _ _ | show OKT _ _ _ _ _ _ _ _ _ _ _ _ | show _ ∧ _ | show CG _ _ _ | show CB _ _ _); simp (disch := first | ((with_reducible show isStop _ = false); rfl) | ((with_reducible show isP _ = true); rfl) | ((with_reducible show (isStop _ || isP _) = false); rfl) | assumption | (simp only [GSB, Nat.reduceEqDiff, reduceIte]; done) | omega | (with_reducible decide) | (simp only [DSB, Go.Proofs.YtdmbgbennlnpcaaDoorAbs.oneC, Go.Proofs.YtdmbgbennlnpcaaDoorAbs.St.next_withLow, Nat.reduceAdd, Nat.reduceLeDiff] <;> omega) | fail) only [↓DN, ↓reduceIte, UP, CGB, Int.reduceEq, Int.reduceLT, Int.reduceLE, Nat.reduceEqDiff, Nat.reduceAdd, Nat.reduceMul, Nat.reduceSub, Int.reduceToNat, Nat.reduceLeDiff, PF, isStop, isP, goInt, beq_self_eq_true, decide_true, decide_false, Int.toNat_natCast, Int.natCast_zero])
    | ((with_reducible refine CB_intro (fun ht => hcA ?_) (fun ht => hcB ?_)) <;> (first | (simp only [Bool.true_eq_false, Bool.false_eq_true] at ht; done) | ((try simp only [Bool.not_eq_true', Bool.not_eq_false'] at ht); (try simp only [ht]); (try simp only [HTN] at ht); (try (exfalso; omega)))))
    | ((with_reducible refine W_regionI ?_); simp only [List.append_eq, List.cons_append, List.nil_append])
    | (with_reducible refine O_splitG fun cA cB hcA hcB => ?_)
    | (exact hq))
theorem RGet_L (h : HP I) {v : Value} {l : List Fld} {name : ByteArray} (hF : RF S v l) (hn : l.length ≤ 1048576) (hsz : ∀ f ∈ l, f.1.size ≤ 1048576 ∧ f.2.size ≤ 1048576) (hm : name.size ≤ 1048576)
    (hQ : ∀ S', KpL S S' → Q (.tuple #[.string (getS l name), .bool (getB l name)]) S') : C Tryd.prog I 22 #[v, .string name] S Q := by
  refine C_body (rs := [.tmp 4, .tmp 5]) (h.no 22 (by decide)) Tryd.func22 rfl rfl ok22 ?_
  obtain ⟨sz24, u9, sz3, u3, sz9, sz22, u22, u25, sz5, u5, sz38, u4, sz49, sz50, u58, u70, sz85, sz98, u103, sz25, u114, sz113, u88, sz27, sz108, u108, sz4, sz96, u96, u2, sz123, u123, sz130, u130, u139, sz103, u140, sz141, u142, u141, u21⟩ := UF
  obtain ⟨a, k, ev, hrow⟩ := hF
  subst ev
  repeat' (first
    | (with_reducible first | refine W_pushC fun K hK => ?_ | refine W_blockI ?_ | refine W_scopeI ?_ | refine W_labelI ?_ | refine W_skipI ?_ | refine W_retI ?_ | refine W_exitI ?_ | refine then_normalI ?_ | refine then_retI ?_ | refine then_exitI ?_ | refine inBlock_normalI ?_ | refine inBlock_retI ?_ | refine inBlock_exitI ?_ | refine inBlock_exitN (by decide) ?_)
    | ((with_reducible first | refine bodyQ_normal0 ?_ | refine bodyQ_normal1 ?_ | refine bodyQ_normal2 ?_ | refine bodyQ_normal3 ?_ | refine bodyQ_normal4 ?_ | refine bodyQ_ret0 ?_ | refine bodyQ_ret1 ?_ | refine bodyQ_ret2 ?_ | refine bodyQ_ret3 ?_ | refine bodyQ_ret4 ?_); (try simp only [EVB, Nat.reduceEqDiff, reduceIte]))
    | (with_reducible refine Cont.use (by assumption) ?_)
    | (with_reducible first | refine hcA ?_ | refine hcB ?_)
    | ((with_reducible first | refine W_condG fun cA cB hcA hcB => ?_ | refine W_regionI ?_ | show O _ _ _ _ _ _ _ _ | show OK _ _ _ _ _ _ _ _ _ | show OKF _ _ _ _ _ _ _ _ _ _ | show OKT _ _ _ _ _ _ _ _ _ _ _ _ | show _ ∧ _ | show CG _ _ _ | show CB _ _ _); simp (disch := first | ((with_reducible show isStop _ = false); rfl) | ((with_reducible show isP _ = true); rfl) | ((with_reducible show (isStop _ || isP _) = false); rfl) | assumption | (simp only [GSB, Nat.reduceEqDiff, reduceIte]; done) | omega | (with_reducible decide) | (simp only [DSB, Go.Proofs.YtdmbgbennlnpcaaDoorAbs.oneC, Go.Proofs.YtdmbgbennlnpcaaDoorAbs.St.next_withLow, Nat.reduceAdd, Nat.reduceLeDiff] <;> omega) | fail) only [↓DN, ↓reduceIte, UP, CGB, Int.reduceEq, Int.reduceLT, Int.reduceLE, Nat.reduceEqDiff, Nat.reduceAdd, Nat.reduceMul, Nat.reduceSub, Int.reduceToNat, Nat.reduceLeDiff, PF, isStop, isP, goInt, beq_self_eq_true, decide_true, decide_false, Int.toNat_natCast, Int.natCast_zero])
    | ((with_reducible refine CB_intro (fun ht => hcA ?_) (fun ht => hcB ?_)) <;> (first | (simp only [Bool.true_eq_false, Bool.false_eq_true] at ht; done) | ((try simp only [Bool.not_eq_true', Bool.not_eq_false'] at ht); (try simp only [ht]); (try simp only [HTN] at ht); (try (exfalso; omega)))))
    | ((with_reducible refine W_regionI ?_); simp only [List.append_eq, List.cons_append, List.nil_append])
    | (with_reducible refine O_splitG fun cA cB hcA hcB => ?_))
  refine W_loop (fun z e S1 => ∃ i : Nat, e.get 0 = .slice a l.length k ∧ e.get 1 = .string name ∧ e.get 6 = .int .i64 i ∧ i ≤ l.length ∧ z = l.length - i ∧ KpL S S1 ∧ ∀ f ∈ l.take i, isN name f = false) l.length ⟨0, by simp only [EVB, Nat.reduceEqDiff, reduceIte], by simp only [EVB, Nat.reduceEqDiff, reduceIte], by simp only [EVB, Nat.reduceEqDiff, reduceIte]; rfl, Nat.zero_le _, by simp, KpL.refl _, by simp⟩ ?_
  rintro z e S1 ⟨i, e0, e1, e6, hi, hz, kS, hno⟩
  have wi : IntKind.i64.wrap ((i : Int) + 1) = ((i + 1 : Nat) : Int) := by rw [Go.Proofs.YtdmbgbennlnpcaaDoorAbs.wp64 (by omega) (by omega)]; omega
  by_cases hlt : i < l.length
  · have hd : decide ((i : Int) < (l.length : Int)) = true := decide_eq_true (by omega)
    obtain ⟨b, L, ea, hr0, hbn⟩ := hrow i hlt
    subst ea
    rw [← kS.kept.2 b hbn (by simp)] at hr0
    obtain ⟨hr1, hr2⟩ := row2 hr0
    have hfs := hsz l[i] (List.getElem_mem hlt)
    have hbn1 : b < S1.next := Nat.lt_of_lt_of_le hbn kS.1
    by_cases hs : isN name l[i] = true
    · have hs' : sameB (l[i]).1 name = true := hs
      have hg := find_at hlt hs hno
      have hr2' : ∀ S2, KpL S1 S2 → Go.Proofs.YtdmbgbennlnpcaaDoorAbs.cellAt (S2.get b) (i * 2 + 1) L = some (.string (l[i]).2) := fun S2 k2 => by rw [k2.kept.2 b hbn1 (by simp)]; exact hr2
      repeat' (first
    | (with_reducible first | refine W_pushC fun K hK => ?_ | refine W_blockI ?_ | refine W_scopeI ?_ | refine W_labelI ?_ | refine W_skipI ?_ | refine W_retI ?_ | refine W_exitI ?_ | refine then_normalI ?_ | refine then_retI ?_ | refine then_exitI ?_ | refine inBlock_normalI ?_ | refine inBlock_retI ?_ | refine inBlock_exitI ?_ | refine inBlock_exitN (by decide) ?_)
    | ((with_reducible first | refine bodyQ_normal0 ?_ | refine bodyQ_normal1 ?_ | refine bodyQ_normal2 ?_ | refine bodyQ_normal3 ?_ | refine bodyQ_normal4 ?_ | refine bodyQ_ret0 ?_ | refine bodyQ_ret1 ?_ | refine bodyQ_ret2 ?_ | refine bodyQ_ret3 ?_ | refine bodyQ_ret4 ?_); (try simp only [EVB, Nat.reduceEqDiff, reduceIte]))
    | (with_reducible refine Cont.use (by assumption) ?_)
    | (with_reducible first | refine hcA ?_ | refine hcB ?_)
    | ((with_reducible first | refine W_condG fun cA cB hcA hcB => ?_ | refine W_regionI ?_ | show O _ _ _ _ _ _ _ _ | show OK _ _ _ _ _ _ _ _ _ | show OKF _ _ _ _ _ _ _ _ _ _ | show OKT _ _ _ _ _ _ _ _ _ _ _ _ | show _ ∧ _ | show CG _ _ _ | show CB _ _ _); simp (disch := first | ((with_reducible show isStop _ = false); rfl) | ((with_reducible show isP _ = true); rfl) | ((with_reducible show (isStop _ || isP _) = false); rfl) | assumption | (simp only [GSB, Nat.reduceEqDiff, reduceIte]; done) | omega | (with_reducible decide) | (simp only [DSB, Go.Proofs.YtdmbgbennlnpcaaDoorAbs.oneC, Go.Proofs.YtdmbgbennlnpcaaDoorAbs.St.next_withLow, Nat.reduceAdd, Nat.reduceLeDiff] <;> omega) | fail) only [↓DN, ↓reduceIte, UP, CGB, Int.reduceEq, Int.reduceLT, Int.reduceLE, Nat.reduceEqDiff, Nat.reduceAdd, Nat.reduceMul, Nat.reduceSub, Int.reduceToNat, Nat.reduceLeDiff, PF, isStop, isP, goInt, beq_self_eq_true, decide_true, decide_false, Int.toNat_natCast, Int.natCast_zero, hd, e0, e1, e6, wi, hr1])
    | ((with_reducible refine CB_intro (fun ht => hcA ?_) (fun ht => hcB ?_)) <;> (first | (simp only [Bool.true_eq_false, Bool.false_eq_true] at ht; done) | ((try simp only [Bool.not_eq_true', Bool.not_eq_false'] at ht); (try simp only [ht]); (try simp only [HTN] at ht); (try (exfalso; omega)))))
    | ((with_reducible refine W_regionI ?_); simp only [List.append_eq, List.cons_append, List.nil_append])
    | (with_reducible refine O_splitG fun cA cB hcA hcB => ?_))
      refine RSame_L h (by omega) (by omega) fun S2 k2 => ?_
      rw [hs']
      have hr22 := hr2' _ k2
      have hq := hQ _ (kS.trans k2)
      simp only [getS, getB, hg, Option.isSome_some] at hq
      repeat' (first
    | (with_reducible first | refine W_pushC fun K hK => ?_ | refine W_blockI ?_ | refine W_scopeI ?_ | refine W_labelI ?_ | refine W_skipI ?_ | refine W_retI ?_ | refine W_exitI ?_ | refine then_normalI ?_ | refine then_retI ?_ | refine then_exitI ?_ | refine inBlock_normalI ?_ | refine inBlock_retI ?_ | refine inBlock_exitI ?_ | refine inBlock_exitN (by decide) ?_)
    | ((with_reducible first | refine bodyQ_normal0 ?_ | refine bodyQ_normal1 ?_ | refine bodyQ_normal2 ?_ | refine bodyQ_normal3 ?_ | refine bodyQ_normal4 ?_ | refine bodyQ_ret0 ?_ | refine bodyQ_ret1 ?_ | refine bodyQ_ret2 ?_ | refine bodyQ_ret3 ?_ | refine bodyQ_ret4 ?_); (try simp only [EVB, Nat.reduceEqDiff, reduceIte]))
    | (with_reducible refine Cont.use (by assumption) ?_)
    | (with_reducible first | refine hcA ?_ | refine hcB ?_)
    | ((with_reducible first | refine W_condG fun cA cB hcA hcB => ?_ | refine W_regionI ?_ | show O _ _ _ _ _ _ _ _ | show OK _ _ _ _ _ _ _ _ _ | show OKF _ _ _ _ _ _ _ _ _ _ | show OKT _ _ _ _ _ _ _ _ _ _ _ _ | show _ ∧ _ | show CG _ _ _ | show CB _ _ _); simp (disch := first | ((with_reducible show isStop _ = false); rfl) | ((with_reducible show isP _ = true); rfl) | ((with_reducible show (isStop _ || isP _) = false); rfl) | assumption | (simp only [GSB, Nat.reduceEqDiff, reduceIte]; done) | omega | (with_reducible decide) | (simp only [DSB, Go.Proofs.YtdmbgbennlnpcaaDoorAbs.oneC, Go.Proofs.YtdmbgbennlnpcaaDoorAbs.St.next_withLow, Nat.reduceAdd, Nat.reduceLeDiff] <;> omega) | fail) only [↓DN, ↓reduceIte, UP, CGB, Int.reduceEq, Int.reduceLT, Int.reduceLE, Nat.reduceEqDiff, Nat.reduceAdd, Nat.reduceMul, Nat.reduceSub, Int.reduceToNat, Nat.reduceLeDiff, PF, isStop, isP, goInt, beq_self_eq_true, decide_true, decide_false, Int.toNat_natCast, Int.natCast_zero, e0, e1, e6, hr22])
    | ((with_reducible refine CB_intro (fun ht => hcA ?_) (fun ht => hcB ?_)) <;> (first | (simp only [Bool.true_eq_false, Bool.false_eq_true] at ht; done) | ((try simp only [Bool.not_eq_true', Bool.not_eq_false'] at ht); (try simp only [ht]); (try simp only [HTN] at ht); (try (exfalso; omega)))))
    | ((with_reducible refine W_regionI ?_); simp only [List.append_eq, List.cons_append, List.nil_append])
    | (with_reducible refine O_splitG fun cA cB hcA hcB => ?_)
    | (exact hq))
    · have hs : isN name l[i] = false := by simpa using hs
      have hs' : sameB (l[i]).1 name = false := hs
      have hnx : ∀ f ∈ l.take (i + 1), isN name f = false := fun f hf => by
        rw [List.take_add_one, List.getElem?_eq_getElem hlt, List.mem_append] at hf
        rcases hf with hf | hf
        · exact hno f hf
        · simp at hf; rw [hf]; exact hs
      repeat' (first
    | (with_reducible first | refine W_pushC fun K hK => ?_ | refine W_blockI ?_ | refine W_scopeI ?_ | refine W_labelI ?_ | refine W_skipI ?_ | refine W_retI ?_ | refine W_exitI ?_ | refine then_normalI ?_ | refine then_retI ?_ | refine then_exitI ?_ | refine inBlock_normalI ?_ | refine inBlock_retI ?_ | refine inBlock_exitI ?_ | refine inBlock_exitN (by decide) ?_)
    | ((with_reducible first | refine bodyQ_normal0 ?_ | refine bodyQ_normal1 ?_ | refine bodyQ_normal2 ?_ | refine bodyQ_normal3 ?_ | refine bodyQ_normal4 ?_ | refine bodyQ_ret0 ?_ | refine bodyQ_ret1 ?_ | refine bodyQ_ret2 ?_ | refine bodyQ_ret3 ?_ | refine bodyQ_ret4 ?_); (try simp only [EVB, Nat.reduceEqDiff, reduceIte]))
    | ((with_reducible show C _ _ _ _ _ _); first | ((refine RSame_L h (by omega) (by omega) fun S2 k2 => ?_; rw [hs'])))
    | (with_reducible refine Cont.use (by assumption) ?_)
    | (with_reducible first | refine hcA ?_ | refine hcB ?_)
    | ((with_reducible first | refine W_condG fun cA cB hcA hcB => ?_ | refine W_regionI ?_ | show O _ _ _ _ _ _ _ _ | show OK _ _ _ _ _ _ _ _ _ | show OKF _ _ _ _ _ _ _ _ _ _ | show OKT _ _ _ _ _ _ _ _ _ _ _ _ | show _ ∧ _ | show CG _ _ _ | show CB _ _ _); simp (disch := first | ((with_reducible show isStop _ = false); rfl) | ((with_reducible show isP _ = true); rfl) | ((with_reducible show (isStop _ || isP _) = false); rfl) | assumption | (simp only [GSB, Nat.reduceEqDiff, reduceIte]; done) | omega | (with_reducible decide) | (simp only [DSB, Go.Proofs.YtdmbgbennlnpcaaDoorAbs.oneC, Go.Proofs.YtdmbgbennlnpcaaDoorAbs.St.next_withLow, Nat.reduceAdd, Nat.reduceLeDiff] <;> omega) | fail) only [↓DN, ↓reduceIte, UP, CGB, Int.reduceEq, Int.reduceLT, Int.reduceLE, Nat.reduceEqDiff, Nat.reduceAdd, Nat.reduceMul, Nat.reduceSub, Int.reduceToNat, Nat.reduceLeDiff, PF, isStop, isP, goInt, beq_self_eq_true, decide_true, decide_false, Int.toNat_natCast, Int.natCast_zero, hd, e0, e1, e6, wi, hr1])
    | ((with_reducible refine CB_intro (fun ht => hcA ?_) (fun ht => hcB ?_)) <;> (first | (simp only [Bool.true_eq_false, Bool.false_eq_true] at ht; done) | ((try simp only [Bool.not_eq_true', Bool.not_eq_false'] at ht); (try simp only [ht]); (try simp only [HTN] at ht); (try (exfalso; omega)))))
    | ((with_reducible refine W_regionI ?_); simp only [List.append_eq, List.cons_append, List.nil_append])
    | (with_reducible refine O_splitG fun cA cB hcA hcB => ?_)
    | ((refine ⟨_, ?_, i + 1, by simp only [EVB, Nat.reduceEqDiff, reduceIte, e0], by simp only [EVB, Nat.reduceEqDiff, reduceIte, e1], by simp only [EVB, Nat.reduceEqDiff, reduceIte], by omega, rfl, kS.trans k2, hnx⟩; omega)))
  · have hd : decide ((i : Int) < (l.length : Int)) = false := decide_eq_false (by omega)
    rw [List.take_of_length_le (by omega)] at hno
    have hg := find_no hno
    have hq := hQ _ kS
    simp only [getS, getB, hg, Option.isSome_none] at hq
    repeat' (first
    | (with_reducible first | refine W_pushC fun K hK => ?_ | refine W_blockI ?_ | refine W_scopeI ?_ | refine W_labelI ?_ | refine W_skipI ?_ | refine W_retI ?_ | refine W_exitI ?_ | refine then_normalI ?_ | refine then_retI ?_ | refine then_exitI ?_ | refine inBlock_normalI ?_ | refine inBlock_retI ?_ | refine inBlock_exitI ?_ | refine inBlock_exitN (by decide) ?_)
    | ((with_reducible first | refine bodyQ_normal0 ?_ | refine bodyQ_normal1 ?_ | refine bodyQ_normal2 ?_ | refine bodyQ_normal3 ?_ | refine bodyQ_normal4 ?_ | refine bodyQ_ret0 ?_ | refine bodyQ_ret1 ?_ | refine bodyQ_ret2 ?_ | refine bodyQ_ret3 ?_ | refine bodyQ_ret4 ?_); (try simp only [EVB, Nat.reduceEqDiff, reduceIte]))
    | (with_reducible refine Cont.use (by assumption) ?_)
    | (with_reducible first | refine hcA ?_ | refine hcB ?_)
    | ((with_reducible first | refine W_condG fun cA cB hcA hcB => ?_ | refine W_regionI ?_ | show O _ _ _ _ _ _ _ _ | show OK _ _ _ _ _ _ _ _ _ | show OKF _ _ _ _ _ _ _ _ _ _ | show OKT _ _ _ _ _ _ _ _ _ _ _ _ | show _ ∧ _ | show CG _ _ _ | show CB _ _ _); simp (disch := first | ((with_reducible show isStop _ = false); rfl) | ((with_reducible show isP _ = true); rfl) | ((with_reducible show (isStop _ || isP _) = false); rfl) | assumption | (simp only [GSB, Nat.reduceEqDiff, reduceIte]; done) | omega | (with_reducible decide) | (simp only [DSB, Go.Proofs.YtdmbgbennlnpcaaDoorAbs.oneC, Go.Proofs.YtdmbgbennlnpcaaDoorAbs.St.next_withLow, Nat.reduceAdd, Nat.reduceLeDiff] <;> omega) | fail) only [↓DN, ↓reduceIte, UP, CGB, Int.reduceEq, Int.reduceLT, Int.reduceLE, Nat.reduceEqDiff, Nat.reduceAdd, Nat.reduceMul, Nat.reduceSub, Int.reduceToNat, Nat.reduceLeDiff, PF, isStop, isP, goInt, beq_self_eq_true, decide_true, decide_false, Int.toNat_natCast, Int.natCast_zero, hd, e0, e1, e6])
    | ((with_reducible refine CB_intro (fun ht => hcA ?_) (fun ht => hcB ?_)) <;> (first | (simp only [Bool.true_eq_false, Bool.false_eq_true] at ht; done) | ((try simp only [Bool.not_eq_true', Bool.not_eq_false'] at ht); (try simp only [ht]); (try simp only [HTN] at ht); (try (exfalso; omega)))))
    | ((with_reducible refine W_regionI ?_); simp only [List.append_eq, List.cons_append, List.nil_append])
    | (with_reducible refine O_splitG fun cA cB hcA hcB => ?_)
    | (exact hq))
def NN (v : Value) (n : Nat) : Prop := (v = .slice none 0 0 ∧ n = 0) ∨ ∃ a k, v = .slice (some a) n k ∧ (0 < n ∨ (0 < k ∧ k < UNK))
def Cl (S0 S : St) (v : Value) (l : List Fld) : Prop := Gr 50 2 S0 S v l.length (fldv l) ∨ (l = [] ∧ KpL S0 S ∧ ∃ b, v = .slice (some ⟨b, 0, some 0⟩) 0 0 ∧ S0.next ≤ b)
theorem Cl.kp {S0 S : St} {v : Value} {l : List Fld} (h : Cl S0 S v l) : KpL S0 S := by rcases h with h | h; exact h.kp; exact h.2.1
theorem Cl.keep {S0 S S' : St} {v : Value} {l : List Fld} (h : Cl S0 S v l) (k : KpL S S') : Cl S0 S' v l := by
  rcases h with h | ⟨h1, h2, h3⟩
  · exact .inl (h.keep k)
  · exact .inr ⟨h1, h2.trans k, h3⟩
theorem Cl.rf {S0 S : St} {v : Value} {l : List Fld} (h : Cl S0 S v l) : RF S v l := by
  rcases h with h | ⟨rfl, _, b, rfl, _⟩
  · exact RF.own h.own
  · exact ⟨_, 0, rfl, fun i hi => by simp at hi⟩
theorem Clone_L (h : HP I) {v : Value} {l : List Fld} (hS : SR S v l) (hN : NN v l.length) (hn : l.length ≤ 1048576) (hQ : ∀ v' S', Cl S S' v' l → Q v' S') : C Tryd.prog I 56 #[v] S Q := by
  refine C_body (rs := [.tmp 2]) (h.no 56 (by decide)) Tryd.func56 rfl rfl ok56 ?_
  obtain ⟨sz24, u9, sz3, u3, sz9, sz22, u22, u25, sz5, u5, sz38, u4, sz49, sz50, u58, u70, sz85, sz98, u103, sz25, u114, sz113, u88, sz27, sz108, u108, sz4, sz96, u96, u2, sz123, u123, sz130, u130, u139, sz103, u140, sz141, u142, u141, u21⟩ := UF
  have nsl : ∀ x : Operand, binX Tryd.prog .eql 22 x (.const (.slice none 0 0)) (.slice none 0 0) (.slice none 0 0) = some (.bool true) := fun x => by cases x <;> kernel_rfl
  rcases hN with ⟨rfl, hz⟩ | ⟨a, k, rfl, hk⟩
  · have : l = [] := List.length_eq_zero_iff.1 hz
    subst this
    have hq := hQ _ _ (.inl (Gr.nil 50 2 S))
    repeat' (first
    | (with_reducible first | refine W_pushC fun K hK => ?_ | refine W_blockI ?_ | refine W_scopeI ?_ | refine W_labelI ?_ | refine W_skipI ?_ | refine W_retI ?_ | refine W_exitI ?_ | refine then_normalI ?_ | refine then_retI ?_ | refine then_exitI ?_ | refine inBlock_normalI ?_ | refine inBlock_retI ?_ | refine inBlock_exitI ?_ | refine inBlock_exitN (by decide) ?_)
    | ((with_reducible first | refine bodyQ_normal0 ?_ | refine bodyQ_normal1 ?_ | refine bodyQ_normal2 ?_ | refine bodyQ_normal3 ?_ | refine bodyQ_normal4 ?_ | refine bodyQ_ret0 ?_ | refine bodyQ_ret1 ?_ | refine bodyQ_ret2 ?_ | refine bodyQ_ret3 ?_ | refine bodyQ_ret4 ?_); (try simp only [EVB, Nat.reduceEqDiff, reduceIte]))
    | (with_reducible refine Cont.use (by assumption) ?_)
    | (with_reducible first | refine hcA ?_ | refine hcB ?_)
    | ((with_reducible first | refine W_condG fun cA cB hcA hcB => ?_ | refine W_regionI ?_ | show O _ _ _ _ _ _ _ _ | show OK _ _ _ _ _ _ _ _ _ | show OKF _ _ _ _ _ _ _ _ _ _ | show OKT _ _ _ _ _ _ _ _ _ _ _ _ | show _ ∧ _ | show CG _ _ _ | show CB _ _ _); simp (disch := first | ((with_reducible show isStop _ = false); rfl) | ((with_reducible show isP _ = true); rfl) | ((with_reducible show (isStop _ || isP _) = false); rfl) | assumption | (simp only [GSB, Nat.reduceEqDiff, reduceIte]; done) | omega | (with_reducible decide) | (simp only [DSB, Go.Proofs.YtdmbgbennlnpcaaDoorAbs.oneC, Go.Proofs.YtdmbgbennlnpcaaDoorAbs.St.next_withLow, Nat.reduceAdd, Nat.reduceLeDiff] <;> omega) | fail) only [↓DN, ↓reduceIte, UP, CGB, Int.reduceEq, Int.reduceLT, Int.reduceLE, Nat.reduceEqDiff, Nat.reduceAdd, Nat.reduceMul, Nat.reduceSub, Int.reduceToNat, Nat.reduceLeDiff, PF, isStop, isP, goInt, beq_self_eq_true, decide_true, decide_false, Int.toNat_natCast, Int.natCast_zero, nsl])
    | ((with_reducible refine CB_intro (fun ht => hcA ?_) (fun ht => hcB ?_)) <;> (first | (simp only [Bool.true_eq_false, Bool.false_eq_true] at ht; done) | ((try simp only [Bool.not_eq_true', Bool.not_eq_false'] at ht); (try simp only [ht]); (try simp only [HTN] at ht); (try (exfalso; omega)))))
    | ((with_reducible refine W_regionI ?_); simp only [List.append_eq, List.cons_append, List.nil_append])
    | (with_reducible refine O_splitG fun cA cB hcA hcB => ?_)
    | (exact hq))
  · have hsrc := hS.src
    have hsl : ∀ x y : Operand, binX Tryd.prog .eql 22 x y (.slice (some a) l.length k) (.slice none 0 0) = some (.bool false) := fun x y => binX_sl_eq _ _ _ u22 a _ _ hk
    have bs0 : abuildSlice Tryd.prog S 22 0 #[] = some (.slice (some ⟨S.next, 0, some 0⟩) 0 0, S.push ⟨[], 50, true, 0⟩) := bs22_0 S
    have hsrc2 : asrc Tryd.prog (S.push ⟨[], 50, true, 0⟩) 22 2 (.slice (some a) l.length k) = some (l.length, fldv l) := (hS.kept (Kept.push _ none)).src
    repeat' (first
    | (with_reducible first | refine W_pushC fun K hK => ?_ | refine W_blockI ?_ | refine W_scopeI ?_ | refine W_labelI ?_ | refine W_skipI ?_ | refine W_retI ?_ | refine W_exitI ?_ | refine then_normalI ?_ | refine then_retI ?_ | refine then_exitI ?_ | refine inBlock_normalI ?_ | refine inBlock_retI ?_ | refine inBlock_exitI ?_ | refine inBlock_exitN (by decide) ?_)
    | ((with_reducible first | refine bodyQ_normal0 ?_ | refine bodyQ_normal1 ?_ | refine bodyQ_normal2 ?_ | refine bodyQ_normal3 ?_ | refine bodyQ_normal4 ?_ | refine bodyQ_ret0 ?_ | refine bodyQ_ret1 ?_ | refine bodyQ_ret2 ?_ | refine bodyQ_ret3 ?_ | refine bodyQ_ret4 ?_); (try simp only [EVB, Nat.reduceEqDiff, reduceIte]))
    | (with_reducible refine Cont.use (by assumption) ?_)
    | (with_reducible first | refine hcA ?_ | refine hcB ?_)
    | ((with_reducible first | refine W_condG fun cA cB hcA hcB => ?_ | refine W_regionI ?_ | show O _ _ _ _ _ _ _ _ | show OK _ _ _ _ _ _ _ _ _ | show OKF _ _ _ _ _ _ _ _ _ _ | show OKT _ _ _ _ _ _ _ _ _ _ _ _ | show _ ∧ _ | show CG _ _ _ | show CB _ _ _); simp (disch := first | ((with_reducible show isStop _ = false); rfl) | ((with_reducible show isP _ = true); rfl) | ((with_reducible show (isStop _ || isP _) = false); rfl) | assumption | (simp only [GSB, Nat.reduceEqDiff, reduceIte]; done) | omega | (with_reducible decide) | (simp only [DSB, Go.Proofs.YtdmbgbennlnpcaaDoorAbs.oneC, Go.Proofs.YtdmbgbennlnpcaaDoorAbs.St.next_withLow, Nat.reduceAdd, Nat.reduceLeDiff] <;> omega) | fail) only [↓DN, ↓reduceIte, UP, CGB, Int.reduceEq, Int.reduceLT, Int.reduceLE, Nat.reduceEqDiff, Nat.reduceAdd, Nat.reduceMul, Nat.reduceSub, Int.reduceToNat, Nat.reduceLeDiff, PF, isStop, isP, goInt, beq_self_eq_true, decide_true, decide_false, Int.toNat_natCast, Int.natCast_zero, hsl, bs0])
    | ((with_reducible refine CB_intro (fun ht => hcA ?_) (fun ht => hcB ?_)) <;> (first | (simp only [Bool.true_eq_false, Bool.false_eq_true] at ht; done) | ((try simp only [Bool.not_eq_true', Bool.not_eq_false'] at ht); (try simp only [ht]); (try simp only [HTN] at ht); (try (exfalso; omega)))))
    | ((with_reducible refine W_regionI ?_); simp only [List.append_eq, List.cons_append, List.nil_append])
    | (with_reducible refine O_splitG fun cA cB hcA hcB => ?_))
    by_cases hl0 : l = []
    · subst hl0
      have ha : aappend Tryd.prog (S.push ⟨[], 50, true, 0⟩) 22 22 (.slice (some ⟨S.next, 0, some 0⟩) 0 0) (.slice (some a) 0 k) = some (.slice (some ⟨S.next, 0, some 0⟩) 0 0, S.push ⟨[], 50, true, 0⟩) := by
        have hsrc2' : asrc Tryd.prog (S.push ⟨[], 50, true, 0⟩) 22 2 (.slice (some a) 0 k) = some (0, []) := hsrc2
        have h1 : 0 < 2 ∧ 0 < 32 ∧ (Value.agg #[.string ⟨#[]⟩, .string ⟨#[]⟩]).cells.size = 2 := ⟨by decide, by decide, rfl⟩
        simp only [aappend, u22, sz50, by50, ze50, h1, and_self, if_true, hsrc2']
      have hq := hQ _ _ (.inr ⟨rfl, KpL.push S ⟨[], 50, true, 0⟩, S.next, rfl, Nat.le_refl _⟩)
      refine O_app (v' := .slice (some ⟨S.next, 0, some 0⟩) 0 0) (S' := S.push ⟨[], 50, true, 0⟩) (by simp only [EVB, Nat.reduceEqDiff, reduceIte]; exact ha) ?_
      repeat' (first
    | (with_reducible first | refine W_pushC fun K hK => ?_ | refine W_blockI ?_ | refine W_scopeI ?_ | refine W_labelI ?_ | refine W_skipI ?_ | refine W_retI ?_ | refine W_exitI ?_ | refine then_normalI ?_ | refine then_retI ?_ | refine then_exitI ?_ | refine inBlock_normalI ?_ | refine inBlock_retI ?_ | refine inBlock_exitI ?_ | refine inBlock_exitN (by decide) ?_)
    | ((with_reducible first | refine bodyQ_normal0 ?_ | refine bodyQ_normal1 ?_ | refine bodyQ_normal2 ?_ | refine bodyQ_normal3 ?_ | refine bodyQ_normal4 ?_ | refine bodyQ_ret0 ?_ | refine bodyQ_ret1 ?_ | refine bodyQ_ret2 ?_ | refine bodyQ_ret3 ?_ | refine bodyQ_ret4 ?_); (try simp only [EVB, Nat.reduceEqDiff, reduceIte]))
    | (with_reducible refine Cont.use (by assumption) ?_)
    | (with_reducible first | refine hcA ?_ | refine hcB ?_)
    | ((with_reducible first | refine W_condG fun cA cB hcA hcB => ?_ | refine W_regionI ?_ | show O _ _ _ _ _ _ _ _ | show OK _ _ _ _ _ _ _ _ _ | show OKF _ _ _ _ _ _ _ _ _ _ | show OKT _ _ _ _ _ _ _ _ _ _ _ _ | show _ ∧ _ | show CG _ _ _ | show CB _ _ _); simp (disch := first | ((with_reducible show isStop _ = false); rfl) | ((with_reducible show isP _ = true); rfl) | ((with_reducible show (isStop _ || isP _) = false); rfl) | assumption | (simp only [GSB, Nat.reduceEqDiff, reduceIte]; done) | omega | (with_reducible decide) | (simp only [DSB, Go.Proofs.YtdmbgbennlnpcaaDoorAbs.oneC, Go.Proofs.YtdmbgbennlnpcaaDoorAbs.St.next_withLow, Nat.reduceAdd, Nat.reduceLeDiff] <;> omega) | fail) only [↓DN, ↓reduceIte, UP, CGB, Int.reduceEq, Int.reduceLT, Int.reduceLE, Nat.reduceEqDiff, Nat.reduceAdd, Nat.reduceMul, Nat.reduceSub, Int.reduceToNat, Nat.reduceLeDiff, PF, isStop, isP, goInt, beq_self_eq_true, decide_true, decide_false, Int.toNat_natCast, Int.natCast_zero])
    | ((with_reducible refine CB_intro (fun ht => hcA ?_) (fun ht => hcB ?_)) <;> (first | (simp only [Bool.true_eq_false, Bool.false_eq_true] at ht; done) | ((try simp only [Bool.not_eq_true', Bool.not_eq_false'] at ht); (try simp only [ht]); (try simp only [HTN] at ht); (try (exfalso; omega)))))
    | ((with_reducible refine W_regionI ?_); simp only [List.append_eq, List.cons_append, List.nil_append])
    | (with_reducible refine O_splitG fun cA cB hcA hcB => ?_)
    | (exact hq))
    · have hpos : 0 < l.length := List.length_pos_iff.2 hl0
      refine O_cap (P := Tryd.prog) (elem := 50) (size := 2) (bytes := 32) (n := 0) (m := l.length) (b := S.next) (o := 0) (L := 0) (c := 0) (xs := []) (ys := fldv l) u22 sz50 by50 ze50 ⟨by decide, by decide, rfl⟩ (by simp only [EVB, Nat.reduceEqDiff, reduceIte]) (by decide) (by omega) rfl rfl rfl (by simp only [EVB, Nat.reduceEqDiff, reduceIte]; exact hsrc2) hpos ⟨fldv_len l, fldv_one l⟩ (by omega) fun v' S' hG => ?_
      rw [List.nil_append, Nat.zero_add] at hG
      have hG2 : Gr 50 2 S S' v' l.length (fldv l) := ⟨(KpL.push _ _).trans hG.kp, hG.own, fun b hb => Nat.le_trans (Nat.le_succ _) (hG.new b hb)⟩
      repeat' (first
    | (with_reducible first | refine W_pushC fun K hK => ?_ | refine W_blockI ?_ | refine W_scopeI ?_ | refine W_labelI ?_ | refine W_skipI ?_ | refine W_retI ?_ | refine W_exitI ?_ | refine then_normalI ?_ | refine then_retI ?_ | refine then_exitI ?_ | refine inBlock_normalI ?_ | refine inBlock_retI ?_ | refine inBlock_exitI ?_ | refine inBlock_exitN (by decide) ?_)
    | ((with_reducible first | refine bodyQ_normal0 ?_ | refine bodyQ_normal1 ?_ | refine bodyQ_normal2 ?_ | refine bodyQ_normal3 ?_ | refine bodyQ_normal4 ?_ | refine bodyQ_ret0 ?_ | refine bodyQ_ret1 ?_ | refine bodyQ_ret2 ?_ | refine bodyQ_ret3 ?_ | refine bodyQ_ret4 ?_); (try simp only [EVB, Nat.reduceEqDiff, reduceIte]))
    | (with_reducible refine Cont.use (by assumption) ?_)
    | (with_reducible first | refine hcA ?_ | refine hcB ?_)
    | ((with_reducible first | refine W_condG fun cA cB hcA hcB => ?_ | refine W_regionI ?_ | show O _ _ _ _ _ _ _ _ | show OK _ _ _ _ _ _ _ _ _ | show OKF _ _ _ _ _ _ _ _ _ _ | show OKT _ _ _ _ _ _ _ _ _ _ _ _ | show _ ∧ _ | show CG _ _ _ | show CB _ _ _); simp (disch := first | ((with_reducible show isStop _ = false); rfl) | ((with_reducible show isP _ = true); rfl) | ((with_reducible show (isStop _ || isP _) = false); rfl) | assumption | (simp only [GSB, Nat.reduceEqDiff, reduceIte]; done) | omega | (with_reducible decide) | (simp only [DSB, Go.Proofs.YtdmbgbennlnpcaaDoorAbs.oneC, Go.Proofs.YtdmbgbennlnpcaaDoorAbs.St.next_withLow, Nat.reduceAdd, Nat.reduceLeDiff] <;> omega) | fail) only [↓DN, ↓reduceIte, UP, CGB, Int.reduceEq, Int.reduceLT, Int.reduceLE, Nat.reduceEqDiff, Nat.reduceAdd, Nat.reduceMul, Nat.reduceSub, Int.reduceToNat, Nat.reduceLeDiff, PF, isStop, isP, goInt, beq_self_eq_true, decide_true, decide_false, Int.toNat_natCast, Int.natCast_zero])
    | ((with_reducible refine CB_intro (fun ht => hcA ?_) (fun ht => hcB ?_)) <;> (first | (simp only [Bool.true_eq_false, Bool.false_eq_true] at ht; done) | ((try simp only [Bool.not_eq_true', Bool.not_eq_false'] at ht); (try simp only [ht]); (try simp only [HTN] at ht); (try (exfalso; omega)))))
    | ((with_reducible refine W_regionI ?_); simp only [List.append_eq, List.cons_append, List.nil_append])
    | (with_reducible refine O_splitG fun cA cB hcA hcB => ?_)
    | (exact hQ _ _ (.inl hG2)))
end
end Go.Proofs.YtdmbgbennlnpcaaDoor.Q
namespace Go.Proofs.YtdmbgbennlnpcaaDoor.Q
open Go Go.Proofs.YtdmbgbennlnpcaaDoorAbs Go.Proofs
set_option linter.unusedVariables false
set_option linter.unusedSimpArgs false
set_option maxRecDepth 100000
set_option maxHeartbeats 4000000
attribute [local irreducible] Go.Proofs.YtdmbgbennlnpcaaDoorAbs.O Go.Proofs.YtdmbgbennlnpcaaDoorAbs.W Go.Proofs.YtdmbgbennlnpcaaDoorAbs.C Go.Proofs.YtdmbgbennlnpcaaDoorAbs.OK Go.Proofs.YtdmbgbennlnpcaaDoorAbs.OKF Go.Proofs.YtdmbgbennlnpcaaDoorAbs.OKT Go.Proofs.YtdmbgbennlnpcaaDoorAbs.then_ Go.Proofs.YtdmbgbennlnpcaaDoorAbs.inBlock_ Go.Proofs.YtdmbgbennlnpcaaDoorAbs.bodyQ Go.Proofs.YtdmbgbennlnpcaaDoorAbs.Cont
theorem fldv_snoc (l : List Fld) (f : Fld) : fldv (l ++ [f]) = fldv l ++ [.string f.1, .string f.2] := by simp [fldv]
theorem fldv_app (l m : List Fld) : fldv (l ++ m) = fldv l ++ fldv m := by simp [fldv]
def DR (S0 S : St) (v : Value) (l : List Fld) : Prop := KpL S0 S ∧ ((∃ a k, v = .slice a 0 k ∧ l = [] ∧ (a = none → k = 0)) ∨ ∃ b m k cs, v = .slice (some ⟨b, 0, some cs.length⟩) l.length k ∧ S.get b = some ⟨cs, 50, true, m⟩ ∧ m ≤ cs.length ∧ cs.take (l.length * 2) = fldv l ∧ l.length * 2 ≤ cs.length ∧ b < S.next ∧ S0.next ≤ b)
theorem DR.sr {S0 S : St} {v : Value} {l : List Fld} (h : DR S0 S v l) : SR S v l := by
  rcases h.2 with h | ⟨b, m, k, cs, h1, h2, h3, h4, h5, h6, h7⟩
  · exact .inl h
  · exact .inr ⟨b, 0, _, k, m, cs, 50, true, h1, h2, fun _ => ⟨h3, by omega⟩, by rw [List.drop_zero]; exact h4, by omega, h6⟩
theorem DR.rf {S0 S : St} {v : Value} {l : List Fld} (h : DR S0 S v l) : RF S v l := by
  rcases h.2 with ⟨a, k', e, rfl, _⟩ | ⟨b', m, k', cs, h1, _⟩
  · exact ⟨a, k', e, fun i hi => by simp at hi⟩
  · refine h.sr.rf fun b o L k q => ?_
    rw [h1] at q; cases q; rfl
theorem DR.cl {S0 S : St} {v : Value} {l : List Fld} (h : Cl S0 S v l) : DR S0 S v l := by
  have hl := fldv_len l
  refine ⟨h.kp, ?_⟩
  rcases h with h | ⟨h1, _, b, h3, _⟩
  · rcases h.own.2.2 with ⟨q, hz⟩ | ⟨b, m, q, h2, h3, h4, _⟩
    · exact .inl ⟨none, 0, q, List.length_eq_zero_iff.1 hz, fun _ => rfl⟩
    · exact .inr ⟨b, m, _, fldv l, q, h2, h3, List.take_of_length_le (by omega), by omega, h4, h.new b (by rw [q]; rfl)⟩
  · exact .inl ⟨_, 0, h3, h1, fun z => (by cases z)⟩
section
variable {I : Prims} {S S0 S1 : St} {c : Int} {Q : Value → St → Prop} {e : Env}
theorem O_addC {ops : Array Oper} {r : List Oper} {dst : Option Tmp} {ty : TypeId} {pos : String} {after : Array Edge} {s x : Operand} {R : Env → St → Prop} {l : List Fld} {n v : ByteArray} (hC : Cl S0 S1 (e.ev s) l) (hx : e.ev x = .slice (some ⟨S1.next, 0, some 2⟩) 1 1) (hl : l.length ≤ 4194304)
    (hk : ∀ v' S', Gr 50 2 S0 S' v' (l ++ [(n, v)]).length (fldv (l ++ [(n, v)])) → O Tryd.prog I ops r [] R (e.putO dst v') S') : O Tryd.prog I ops (⟨dst, .call ⟨.builtin .append, #[s, x], #[22, 22]⟩, ty, pos, after, none⟩ :: r) [] R e (S1.push ⟨[.string n, .string v], 50, true, 0⟩) := by
  have gx : asrc Tryd.prog (S1.push ⟨[.string n, .string v], 50, true, 0⟩) 22 2 (e.ev x) = some (1, [.string n, .string v]) := by
    rw [hx]
    exact asrc_own_lit (m := 0) (xs := [.string n, .string v]) u22 (St.get_push_self _ _) (Nat.zero_le _) rfl rfl
  rcases hC with hG | ⟨rfl, kp, b, hb, hbn⟩
  · refine O_gr (S0 := S0) (elem := 50) (size := 2) (bytes := 32) (n := l.length) (m := 1) (xs := fldv l) (ys := [.string n, .string v]) u22 sz50 by50 ze50 ⟨by decide, by decide, rfl⟩ (hG.keep (KpL.push _ _)) gx ⟨rfl, rfl⟩ (by omega) fun v' S' hG' => ?_
    refine hk v' S' ?_
    rw [fldv_snoc, List.length_append]
    exact hG'
  · refine O_cap (P := Tryd.prog) (elem := 50) (size := 2) (bytes := 32) (n := 0) (m := 1) (b := b) (o := 0) (L := 0) (c := 0) (xs := []) (ys := [.string n, .string v]) u22 sz50 by50 ze50 ⟨by decide, by decide, rfl⟩ hb (by decide) (by decide) rfl rfl rfl gx (by decide) ⟨rfl, rfl⟩ (by decide) fun v' S' hG' => ?_
    exact hk v' S' ⟨(kp.trans (KpL.push _ _)).trans hG'.kp, hG'.own, fun j hj => Nat.le_trans (kp.trans (KpL.push _ _)).1 (hG'.new j hj)⟩
theorem Add_L (h : HP I) {v : Value} {l : List Fld} {name value : ByteArray} (hS : SR S v l) (hN : NN v l.length) (hn : l.length ≤ 1048576) (hQ : ∀ v' S', Gr 50 2 S S' v' (l ++ [(name, value)]).length (fldv (l ++ [(name, value)])) → Q v' S') : C Tryd.prog I 24 #[v, .string name, .string value] S Q := by
  refine C_body (rs := [.tmp 6]) (h.no 24 (by decide)) Tryd.func24 rfl rfl ok24 ?_
  obtain ⟨sz24, u9, sz3, u3, sz9, sz22, u22, u25, sz5, u5, sz38, u4, sz49, sz50, u58, u70, sz85, sz98, u103, sz25, u114, sz113, u88, sz27, sz108, u108, sz4, sz96, u96, u2, sz123, u123, sz130, u130, u139, sz103, u140, sz141, u142, u141, u21⟩ := UF
  repeat' (first
    | (with_reducible first | refine W_pushC fun K hK => ?_ | refine W_blockI ?_ | refine W_scopeI ?_ | refine W_labelI ?_ | refine W_skipI ?_ | refine W_retI ?_ | refine W_exitI ?_ | refine then_normalI ?_ | refine then_retI ?_ | refine then_exitI ?_ | refine inBlock_normalI ?_ | refine inBlock_retI ?_ | refine inBlock_exitI ?_ | refine inBlock_exitN (by decide) ?_)
    | ((with_reducible first | refine bodyQ_normal0 ?_ | refine bodyQ_normal1 ?_ | refine bodyQ_normal2 ?_ | refine bodyQ_normal3 ?_ | refine bodyQ_normal4 ?_ | refine bodyQ_ret0 ?_ | refine bodyQ_ret1 ?_ | refine bodyQ_ret2 ?_ | refine bodyQ_ret3 ?_ | refine bodyQ_ret4 ?_); (try simp only [EVB, Nat.reduceEqDiff, reduceIte]))
    | (with_reducible refine Cont.use (by assumption) ?_)
    | (with_reducible first | refine hcA ?_ | refine hcB ?_)
    | ((with_reducible first | refine W_condG fun cA cB hcA hcB => ?_ | refine W_regionI ?_ | show O _ _ _ _ _ _ _ _ | show OK _ _ _ _ _ _ _ _ _ | show OKF _ _ _ _ _ _ _ _ _ _ | show OKT _ _ _ _ _ _ _ _ _ _ _ _ | show _ ∧ _ | show CG _ _ _ | show CB _ _ _); simp (disch := first | ((with_reducible show isStop _ = false); rfl) | ((with_reducible show isP _ = true); rfl) | ((with_reducible show (isStop _ || isP _) = false); rfl) | assumption | (simp only [GSB, Nat.reduceEqDiff, reduceIte]; done) | omega | (with_reducible decide) | (simp only [DSB, Go.Proofs.YtdmbgbennlnpcaaDoorAbs.oneC, Go.Proofs.YtdmbgbennlnpcaaDoorAbs.St.next_withLow, Nat.reduceAdd, Nat.reduceLeDiff] <;> omega) | fail) only [↓DN, ↓reduceIte, UP, CGB, Int.reduceEq, Int.reduceLT, Int.reduceLE, Nat.reduceEqDiff, Nat.reduceAdd, Nat.reduceMul, Nat.reduceSub, Int.reduceToNat, Nat.reduceLeDiff, PF, isStop, isP, goInt, beq_self_eq_true, decide_true, decide_false, Int.toNat_natCast, Int.natCast_zero])
    | ((with_reducible refine CB_intro (fun ht => hcA ?_) (fun ht => hcB ?_)) <;> (first | (simp only [Bool.true_eq_false, Bool.false_eq_true] at ht; done) | ((try simp only [Bool.not_eq_true', Bool.not_eq_false'] at ht); (try simp only [ht]); (try simp only [HTN] at ht); (try (exfalso; omega)))))
    | ((with_reducible refine W_regionI ?_); simp only [List.append_eq, List.cons_append, List.nil_append])
    | (with_reducible refine O_splitG fun cA cB hcA hcB => ?_))
  refine Clone_L h hS hN hn fun v1 S1 hC => ?_
  repeat' (first
    | (with_reducible first | refine W_pushC fun K hK => ?_ | refine W_blockI ?_ | refine W_scopeI ?_ | refine W_labelI ?_ | refine W_skipI ?_ | refine W_retI ?_ | refine W_exitI ?_ | refine then_normalI ?_ | refine then_retI ?_ | refine then_exitI ?_ | refine inBlock_normalI ?_ | refine inBlock_retI ?_ | refine inBlock_exitI ?_ | refine inBlock_exitN (by decide) ?_)
    | ((with_reducible first | refine bodyQ_normal0 ?_ | refine bodyQ_normal1 ?_ | refine bodyQ_normal2 ?_ | refine bodyQ_normal3 ?_ | refine bodyQ_normal4 ?_ | refine bodyQ_ret0 ?_ | refine bodyQ_ret1 ?_ | refine bodyQ_ret2 ?_ | refine bodyQ_ret3 ?_ | refine bodyQ_ret4 ?_); (try simp only [EVB, Nat.reduceEqDiff, reduceIte]))
    | (with_reducible refine Cont.use (by assumption) ?_)
    | (with_reducible first | refine hcA ?_ | refine hcB ?_)
    | ((with_reducible first | refine W_condG fun cA cB hcA hcB => ?_ | refine W_regionI ?_ | show O _ _ _ _ _ _ _ _ | show OK _ _ _ _ _ _ _ _ _ | show OKF _ _ _ _ _ _ _ _ _ _ | show OKT _ _ _ _ _ _ _ _ _ _ _ _ | show _ ∧ _ | show CG _ _ _ | show CB _ _ _); simp (disch := first | ((with_reducible show isStop _ = false); rfl) | ((with_reducible show isP _ = true); rfl) | ((with_reducible show (isStop _ || isP _) = false); rfl) | assumption | (simp only [GSB, Nat.reduceEqDiff, reduceIte]; done) | omega | (with_reducible decide) | (simp only [DSB, Go.Proofs.YtdmbgbennlnpcaaDoorAbs.oneC, Go.Proofs.YtdmbgbennlnpcaaDoorAbs.St.next_withLow, Nat.reduceAdd, Nat.reduceLeDiff] <;> omega) | fail) only [↓DN, ↓reduceIte, UP, CGB, Int.reduceEq, Int.reduceLT, Int.reduceLE, Nat.reduceEqDiff, Nat.reduceAdd, Nat.reduceMul, Nat.reduceSub, Int.reduceToNat, Nat.reduceLeDiff, PF, isStop, isP, goInt, beq_self_eq_true, decide_true, decide_false, Int.toNat_natCast, Int.natCast_zero])
    | ((with_reducible refine CB_intro (fun ht => hcA ?_) (fun ht => hcB ?_)) <;> (first | (simp only [Bool.true_eq_false, Bool.false_eq_true] at ht; done) | ((try simp only [Bool.not_eq_true', Bool.not_eq_false'] at ht); (try simp only [ht]); (try simp only [HTN] at ht); (try (exfalso; omega)))))
    | ((with_reducible refine W_regionI ?_); simp only [List.append_eq, List.cons_append, List.nil_append])
    | (with_reducible refine O_splitG fun cA cB hcA hcB => ?_))
  refine O_addC (n := name) (v := value) (l := l) (by simp only [EVB, Nat.reduceEqDiff, reduceIte]; exact hC) (by simp only [EVB, Nat.reduceEqDiff, reduceIte]) (by omega) fun v' S' hG => ?_
  repeat' (first
    | (with_reducible first | refine W_pushC fun K hK => ?_ | refine W_blockI ?_ | refine W_scopeI ?_ | refine W_labelI ?_ | refine W_skipI ?_ | refine W_retI ?_ | refine W_exitI ?_ | refine then_normalI ?_ | refine then_retI ?_ | refine then_exitI ?_ | refine inBlock_normalI ?_ | refine inBlock_retI ?_ | refine inBlock_exitI ?_ | refine inBlock_exitN (by decide) ?_)
    | ((with_reducible first | refine bodyQ_normal0 ?_ | refine bodyQ_normal1 ?_ | refine bodyQ_normal2 ?_ | refine bodyQ_normal3 ?_ | refine bodyQ_normal4 ?_ | refine bodyQ_ret0 ?_ | refine bodyQ_ret1 ?_ | refine bodyQ_ret2 ?_ | refine bodyQ_ret3 ?_ | refine bodyQ_ret4 ?_); (try simp only [EVB, Nat.reduceEqDiff, reduceIte]))
    | (with_reducible refine Cont.use (by assumption) ?_)
    | (with_reducible first | refine hcA ?_ | refine hcB ?_)
    | ((with_reducible first | refine W_condG fun cA cB hcA hcB => ?_ | refine W_regionI ?_ | show O _ _ _ _ _ _ _ _ | show OK _ _ _ _ _ _ _ _ _ | show OKF _ _ _ _ _ _ _ _ _ _ | show OKT _ _ _ _ _ _ _ _ _ _ _ _ | show _ ∧ _ | show CG _ _ _ | show CB _ _ _); simp (disch := first | ((with_reducible show isStop _ = false); rfl) | ((with_reducible show isP _ = true); rfl) | ((with_reducible show (isStop _ || isP _) = false); rfl) | assumption | (simp only [GSB, Nat.reduceEqDiff, reduceIte]; done) | omega | (with_reducible decide) | (simp only [DSB, Go.Proofs.YtdmbgbennlnpcaaDoorAbs.oneC, Go.Proofs.YtdmbgbennlnpcaaDoorAbs.St.next_withLow, Nat.reduceAdd, Nat.reduceLeDiff] <;> omega) | fail) only [↓DN, ↓reduceIte, UP, CGB, Int.reduceEq, Int.reduceLT, Int.reduceLE, Nat.reduceEqDiff, Nat.reduceAdd, Nat.reduceMul, Nat.reduceSub, Int.reduceToNat, Nat.reduceLeDiff, PF, isStop, isP, goInt, beq_self_eq_true, decide_true, decide_false, Int.toNat_natCast, Int.natCast_zero])
    | ((with_reducible refine CB_intro (fun ht => hcA ?_) (fun ht => hcB ?_)) <;> (first | (simp only [Bool.true_eq_false, Bool.false_eq_true] at ht; done) | ((try simp only [Bool.not_eq_true', Bool.not_eq_false'] at ht); (try simp only [ht]); (try simp only [HTN] at ht); (try (exfalso; omega)))))
    | ((with_reducible refine W_regionI ?_); simp only [List.append_eq, List.cons_append, List.nil_append])
    | (with_reducible refine O_splitG fun cA cB hcA hcB => ?_)
    | (exact hQ _ _ hG))
theorem RAdd_L (h : HP I) {v : Value} {l : List Fld} {name value : ByteArray} (hS : SR S v l) (hn : l.length ≤ 1048576) (hQ : ∀ v' S', Gr 50 2 S S' v' (l ++ [(name, value)]).length (fldv (l ++ [(name, value)])) → Q v' S') : C Tryd.prog I 27 #[v, .string name, .string value] S Q := by
  refine C_body (rs := [.tmp 6]) (h.no 27 (by decide)) Tryd.func27 rfl rfl ok27 ?_
  obtain ⟨sz24, u9, sz3, u3, sz9, sz22, u22, u25, sz5, u5, sz38, u4, sz49, sz50, u58, u70, sz85, sz98, u103, sz25, u114, sz113, u88, sz27, sz108, u108, sz4, sz96, u96, u2, sz123, u123, sz130, u130, u139, sz103, u140, sz141, u142, u141, u21⟩ := UF
  have hsrc := hS.src
  repeat' (first
    | (with_reducible first | refine W_pushC fun K hK => ?_ | refine W_blockI ?_ | refine W_scopeI ?_ | refine W_labelI ?_ | refine W_skipI ?_ | refine W_retI ?_ | refine W_exitI ?_ | refine then_normalI ?_ | refine then_retI ?_ | refine then_exitI ?_ | refine inBlock_normalI ?_ | refine inBlock_retI ?_ | refine inBlock_exitI ?_ | refine inBlock_exitN (by decide) ?_)
    | ((with_reducible first | refine bodyQ_normal0 ?_ | refine bodyQ_normal1 ?_ | refine bodyQ_normal2 ?_ | refine bodyQ_normal3 ?_ | refine bodyQ_normal4 ?_ | refine bodyQ_ret0 ?_ | refine bodyQ_ret1 ?_ | refine bodyQ_ret2 ?_ | refine bodyQ_ret3 ?_ | refine bodyQ_ret4 ?_); (try simp only [EVB, Nat.reduceEqDiff, reduceIte]))
    | (with_reducible refine Cont.use (by assumption) ?_)
    | (with_reducible first | refine hcA ?_ | refine hcB ?_)
    | ((with_reducible first | refine W_condG fun cA cB hcA hcB => ?_ | refine W_regionI ?_ | show O _ _ _ _ _ _ _ _ | show OK _ _ _ _ _ _ _ _ _ | show OKF _ _ _ _ _ _ _ _ _ _ | show OKT _ _ _ _ _ _ _ _ _ _ _ _ | show _ ∧ _ | show CG _ _ _ | show CB _ _ _); simp (disch := first | ((with_reducible show isStop _ = false); rfl) | ((with_reducible show isP _ = true); rfl) | ((with_reducible show (isStop _ || isP _) = false); rfl) | assumption | (simp only [GSB, Nat.reduceEqDiff, reduceIte]; done) | omega | (with_reducible decide) | (simp only [DSB, Go.Proofs.YtdmbgbennlnpcaaDoorAbs.oneC, Go.Proofs.YtdmbgbennlnpcaaDoorAbs.St.next_withLow, Nat.reduceAdd, Nat.reduceLeDiff] <;> omega) | fail) only [↓DN, ↓reduceIte, UP, CGB, Int.reduceEq, Int.reduceLT, Int.reduceLE, Nat.reduceEqDiff, Nat.reduceAdd, Nat.reduceMul, Nat.reduceSub, Int.reduceToNat, Nat.reduceLeDiff, PF, isStop, isP, goInt, beq_self_eq_true, decide_true, decide_false, Int.toNat_natCast, Int.natCast_zero])
    | ((with_reducible refine CB_intro (fun ht => hcA ?_) (fun ht => hcB ?_)) <;> (first | (simp only [Bool.true_eq_false, Bool.false_eq_true] at ht; done) | ((try simp only [Bool.not_eq_true', Bool.not_eq_false'] at ht); (try simp only [ht]); (try simp only [HTN] at ht); (try (exfalso; omega)))))
    | ((with_reducible refine W_regionI ?_); simp only [List.append_eq, List.cons_append, List.nil_append])
    | (with_reducible refine O_splitG fun cA cB hcA hcB => ?_))
  refine O_gr (S0 := S) (elem := 50) (size := 2) (bytes := 32) (n := 0) (m := l.length) (xs := []) (ys := fldv l) u22 sz50 by50 ze50 ⟨by decide, by decide, rfl⟩ (by simp only [EVB, Nat.reduceEqDiff, reduceIte]; exact Gr.nil 50 2 S) (by simp only [EVB, Nat.reduceEqDiff, reduceIte]; exact hsrc) ⟨fldv_len l, fldv_one l⟩ (by omega) fun v1 S1 hG1 => ?_
  rw [List.nil_append, Nat.zero_add] at hG1
  repeat' (first
    | (with_reducible first | refine W_pushC fun K hK => ?_ | refine W_blockI ?_ | refine W_scopeI ?_ | refine W_labelI ?_ | refine W_skipI ?_ | refine W_retI ?_ | refine W_exitI ?_ | refine then_normalI ?_ | refine then_retI ?_ | refine then_exitI ?_ | refine inBlock_normalI ?_ | refine inBlock_retI ?_ | refine inBlock_exitI ?_ | refine inBlock_exitN (by decide) ?_)
    | ((with_reducible first | refine bodyQ_normal0 ?_ | refine bodyQ_normal1 ?_ | refine bodyQ_normal2 ?_ | refine bodyQ_normal3 ?_ | refine bodyQ_normal4 ?_ | refine bodyQ_ret0 ?_ | refine bodyQ_ret1 ?_ | refine bodyQ_ret2 ?_ | refine bodyQ_ret3 ?_ | refine bodyQ_ret4 ?_); (try simp only [EVB, Nat.reduceEqDiff, reduceIte]))
    | (with_reducible refine Cont.use (by assumption) ?_)
    | (with_reducible first | refine hcA ?_ | refine hcB ?_)
    | ((with_reducible first | refine W_condG fun cA cB hcA hcB => ?_ | refine W_regionI ?_ | show O _ _ _ _ _ _ _ _ | show OK _ _ _ _ _ _ _ _ _ | show OKF _ _ _ _ _ _ _ _ _ _ | show OKT _ _ _ _ _ _ _ _ _ _ _ _ | show _ ∧ _ | show CG _ _ _ | show CB _ _ _); simp (disch := first | ((with_reducible show isStop _ = false); rfl) | ((with_reducible show isP _ = true); rfl) | ((with_reducible show (isStop _ || isP _) = false); rfl) | assumption | (simp only [GSB, Nat.reduceEqDiff, reduceIte]; done) | omega | (with_reducible decide) | (simp only [DSB, Go.Proofs.YtdmbgbennlnpcaaDoorAbs.oneC, Go.Proofs.YtdmbgbennlnpcaaDoorAbs.St.next_withLow, Nat.reduceAdd, Nat.reduceLeDiff] <;> omega) | fail) only [↓DN, ↓reduceIte, UP, CGB, Int.reduceEq, Int.reduceLT, Int.reduceLE, Nat.reduceEqDiff, Nat.reduceAdd, Nat.reduceMul, Nat.reduceSub, Int.reduceToNat, Nat.reduceLeDiff, PF, isStop, isP, goInt, beq_self_eq_true, decide_true, decide_false, Int.toNat_natCast, Int.natCast_zero])
    | ((with_reducible refine CB_intro (fun ht => hcA ?_) (fun ht => hcB ?_)) <;> (first | (simp only [Bool.true_eq_false, Bool.false_eq_true] at ht; done) | ((try simp only [Bool.not_eq_true', Bool.not_eq_false'] at ht); (try simp only [ht]); (try simp only [HTN] at ht); (try (exfalso; omega)))))
    | ((with_reducible refine W_regionI ?_); simp only [List.append_eq, List.cons_append, List.nil_append])
    | (with_reducible refine O_splitG fun cA cB hcA hcB => ?_))
  refine O_addC (n := name) (v := value) (l := l) (by simp only [EVB, Nat.reduceEqDiff, reduceIte]; exact .inl hG1) (by simp only [EVB, Nat.reduceEqDiff, reduceIte]) (by omega) fun v' S' hG => ?_
  repeat' (first
    | (with_reducible first | refine W_pushC fun K hK => ?_ | refine W_blockI ?_ | refine W_scopeI ?_ | refine W_labelI ?_ | refine W_skipI ?_ | refine W_retI ?_ | refine W_exitI ?_ | refine then_normalI ?_ | refine then_retI ?_ | refine then_exitI ?_ | refine inBlock_normalI ?_ | refine inBlock_retI ?_ | refine inBlock_exitI ?_ | refine inBlock_exitN (by decide) ?_)
    | ((with_reducible first | refine bodyQ_normal0 ?_ | refine bodyQ_normal1 ?_ | refine bodyQ_normal2 ?_ | refine bodyQ_normal3 ?_ | refine bodyQ_normal4 ?_ | refine bodyQ_ret0 ?_ | refine bodyQ_ret1 ?_ | refine bodyQ_ret2 ?_ | refine bodyQ_ret3 ?_ | refine bodyQ_ret4 ?_); (try simp only [EVB, Nat.reduceEqDiff, reduceIte]))
    | (with_reducible refine Cont.use (by assumption) ?_)
    | (with_reducible first | refine hcA ?_ | refine hcB ?_)
    | ((with_reducible first | refine W_condG fun cA cB hcA hcB => ?_ | refine W_regionI ?_ | show O _ _ _ _ _ _ _ _ | show OK _ _ _ _ _ _ _ _ _ | show OKF _ _ _ _ _ _ _ _ _ _ | show OKT _ _ _ _ _ _ _ _ _ _ _ _ | show _ ∧ _ | show CG _ _ _ | show CB _ _ _); simp (disch := first | ((with_reducible show isStop _ = false); rfl) | ((with_reducible show isP _ = true); rfl) | ((with_reducible show (isStop _ || isP _) = false); rfl) | assumption | (simp only [GSB, Nat.reduceEqDiff, reduceIte]; done) | omega | (with_reducible decide) | (simp only [DSB, Go.Proofs.YtdmbgbennlnpcaaDoorAbs.oneC, Go.Proofs.YtdmbgbennlnpcaaDoorAbs.St.next_withLow, Nat.reduceAdd, Nat.reduceLeDiff] <;> omega) | fail) only [↓DN, ↓reduceIte, UP, CGB, Int.reduceEq, Int.reduceLT, Int.reduceLE, Nat.reduceEqDiff, Nat.reduceAdd, Nat.reduceMul, Nat.reduceSub, Int.reduceToNat, Nat.reduceLeDiff, PF, isStop, isP, goInt, beq_self_eq_true, decide_true, decide_false, Int.toNat_natCast, Int.natCast_zero])
    | ((with_reducible refine CB_intro (fun ht => hcA ?_) (fun ht => hcB ?_)) <;> (first | (simp only [Bool.true_eq_false, Bool.false_eq_true] at ht; done) | ((try simp only [Bool.not_eq_true', Bool.not_eq_false'] at ht); (try simp only [ht]); (try simp only [HTN] at ht); (try (exfalso; omega)))))
    | ((with_reducible refine W_regionI ?_); simp only [List.append_eq, List.cons_append, List.nil_append])
    | (with_reducible refine O_splitG fun cA cB hcA hcB => ?_)
    | (exact hQ _ _ hG))
theorem del_step {l : List Fld} {name : ByteArray} {j : Nat} (hj : j < l.length) : delF (l.take (j + 1)) name = delF (l.take j) name ++ (if isN name l[j] = true then [] else [l[j]]) := by
  rw [List.take_add_one, List.getElem?_eq_getElem hj]
  simp only [delF, List.filter_append, Option.toList_some]
  cases hb : isN name l[j] <;> simp [hb]
theorem del_no {l : List Fld} {name : ByteArray} (h : ∀ f ∈ l, isN name f = false) : delF l name = l := List.filter_eq_self.2 fun f hf => by simp [h f hf]
end
end Go.Proofs.YtdmbgbennlnpcaaDoor.Q
namespace Go.Proofs.YtdmbgbennlnpcaaDoor.Q
open Go Go.Proofs.YtdmbgbennlnpcaaDoorAbs Go.Proofs
set_option linter.unusedVariables false
set_option linter.unusedSimpArgs false
set_option maxRecDepth 100000
set_option maxHeartbeats 4000000
attribute [local irreducible] Go.Proofs.YtdmbgbennlnpcaaDoorAbs.O Go.Proofs.YtdmbgbennlnpcaaDoorAbs.W Go.Proofs.YtdmbgbennlnpcaaDoorAbs.C Go.Proofs.YtdmbgbennlnpcaaDoorAbs.OK Go.Proofs.YtdmbgbennlnpcaaDoorAbs.OKF Go.Proofs.YtdmbgbennlnpcaaDoorAbs.OKT Go.Proofs.YtdmbgbennlnpcaaDoorAbs.then_ Go.Proofs.YtdmbgbennlnpcaaDoorAbs.inBlock_ Go.Proofs.YtdmbgbennlnpcaaDoorAbs.bodyQ Go.Proofs.YtdmbgbennlnpcaaDoorAbs.Cont
section
variable {I : Prims} {S S0 S1 : St} {c : Int} {Q : Value → St → Prop} {e : Env}
theorem DeleteFunc_L (h : HP I) {v : Value} {l : List Fld} {p : Nat} {name : ByteArray} (hC : Cl S0 S v l) (hp : S.get p = some ⟨[.string name], 9, true, 0⟩) (hpn : p < S.next) (hn : l.length ≤ 1048576) (hsz : ∀ f ∈ l, f.1.size ≤ 1048576 ∧ f.2.size ≤ 1048576) (hm : name.size ≤ 1048576)
    (hQ : ∀ v' S', DR S0 S' v' (delF l name) → Q v' S') : C Tryd.prog I 57 #[v, nmV p] S Q := by
  refine C_body (rs := [.tmp 4]) (h.no 57 (by decide)) Tryd.func57 rfl rfl ok57 ?_
  obtain ⟨sz24, u9, sz3, u3, sz9, sz22, u22, u25, sz5, u5, sz38, u4, sz49, sz50, u58, u70, sz85, sz98, u103, sz25, u114, sz113, u88, sz27, sz108, u108, sz4, sz96, u96, u2, sz123, u123, sz130, u130, u139, sz103, u140, sz141, u142, u141, u21⟩ := UF
  have hrf := hC.rf
  repeat' (first
    | (with_reducible first | refine W_pushC fun K hK => ?_ | refine W_blockI ?_ | refine W_scopeI ?_ | refine W_labelI ?_ | refine W_skipI ?_ | refine W_retI ?_ | refine W_exitI ?_ | refine then_normalI ?_ | refine then_retI ?_ | refine then_exitI ?_ | refine inBlock_normalI ?_ | refine inBlock_retI ?_ | refine inBlock_exitI ?_ | refine inBlock_exitN (by decide) ?_)
    | ((with_reducible first | refine bodyQ_normal0 ?_ | refine bodyQ_normal1 ?_ | refine bodyQ_normal2 ?_ | refine bodyQ_normal3 ?_ | refine bodyQ_normal4 ?_ | refine bodyQ_ret0 ?_ | refine bodyQ_ret1 ?_ | refine bodyQ_ret2 ?_ | refine bodyQ_ret3 ?_ | refine bodyQ_ret4 ?_); (try simp only [EVB, Nat.reduceEqDiff, reduceIte]))
    | (with_reducible refine Cont.use (by assumption) ?_)
    | (with_reducible first | refine hcA ?_ | refine hcB ?_)
    | ((with_reducible first | refine W_condG fun cA cB hcA hcB => ?_ | refine W_regionI ?_ | show O _ _ _ _ _ _ _ _ | show OK _ _ _ _ _ _ _ _ _ | show OKF _ _ _ _ _ _ _ _ _ _ | show OKT _ _ _ _ _ _ _ _ _ _ _ _ | show _ ∧ _ | show CG _ _ _ | show CB _ _ _); simp (disch := first | ((with_reducible show isStop _ = false); rfl) | ((with_reducible show isP _ = true); rfl) | ((with_reducible show (isStop _ || isP _) = false); rfl) | assumption | (simp only [GSB, Nat.reduceEqDiff, reduceIte]; done) | omega | (with_reducible decide) | (simp only [DSB, Go.Proofs.YtdmbgbennlnpcaaDoorAbs.oneC, Go.Proofs.YtdmbgbennlnpcaaDoorAbs.St.next_withLow, Nat.reduceAdd, Nat.reduceLeDiff] <;> omega) | fail) only [↓DN, ↓reduceIte, UP, CGB, Int.reduceEq, Int.reduceLT, Int.reduceLE, Nat.reduceEqDiff, Nat.reduceAdd, Nat.reduceMul, Nat.reduceSub, Int.reduceToNat, Nat.reduceLeDiff, PF, isStop, isP, goInt, beq_self_eq_true, decide_true, decide_false, Int.toNat_natCast, Int.natCast_zero])
    | ((with_reducible refine CB_intro (fun ht => hcA ?_) (fun ht => hcB ?_)) <;> (first | (simp only [Bool.true_eq_false, Bool.false_eq_true] at ht; done) | ((try simp only [Bool.not_eq_true', Bool.not_eq_false'] at ht); (try simp only [ht]); (try simp only [HTN] at ht); (try (exfalso; omega)))))
    | ((with_reducible refine W_regionI ?_); simp only [List.append_eq, List.cons_append, List.nil_append])
    | (with_reducible refine O_splitG fun cA cB hcA hcB => ?_))
  refine Index_L (p := p) h hrf hp hpn hn hsz hm (fun i S1 k1 hi hs hno => ?_) (fun S1 k1 hno => ?_)
  case refine_2 =>
    rw [del_no hno] at hQ
    have hq := hQ _ _ (DR.cl (hC.keep k1))
    have hd : decide ((-1 : Int) = -1) = true := rfl
    repeat' (first
    | (with_reducible first | refine W_pushC fun K hK => ?_ | refine W_blockI ?_ | refine W_scopeI ?_ | refine W_labelI ?_ | refine W_skipI ?_ | refine W_retI ?_ | refine W_exitI ?_ | refine then_normalI ?_ | refine then_retI ?_ | refine then_exitI ?_ | refine inBlock_normalI ?_ | refine inBlock_retI ?_ | refine inBlock_exitI ?_ | refine inBlock_exitN (by decide) ?_)
    | ((with_reducible first | refine bodyQ_normal0 ?_ | refine bodyQ_normal1 ?_ | refine bodyQ_normal2 ?_ | refine bodyQ_normal3 ?_ | refine bodyQ_normal4 ?_ | refine bodyQ_ret0 ?_ | refine bodyQ_ret1 ?_ | refine bodyQ_ret2 ?_ | refine bodyQ_ret3 ?_ | refine bodyQ_ret4 ?_); (try simp only [EVB, Nat.reduceEqDiff, reduceIte]))
    | (with_reducible refine Cont.use (by assumption) ?_)
    | (with_reducible first | refine hcA ?_ | refine hcB ?_)
    | ((with_reducible first | refine W_condG fun cA cB hcA hcB => ?_ | refine W_regionI ?_ | show O _ _ _ _ _ _ _ _ | show OK _ _ _ _ _ _ _ _ _ | show OKF _ _ _ _ _ _ _ _ _ _ | show OKT _ _ _ _ _ _ _ _ _ _ _ _ | show _ ∧ _ | show CG _ _ _ | show CB _ _ _); simp (disch := first | ((with_reducible show isStop _ = false); rfl) | ((with_reducible show isP _ = true); rfl) | ((with_reducible show (isStop _ || isP _) = false); rfl) | assumption | (simp only [GSB, Nat.reduceEqDiff, reduceIte]; done) | omega | (with_reducible decide) | (simp only [DSB, Go.Proofs.YtdmbgbennlnpcaaDoorAbs.oneC, Go.Proofs.YtdmbgbennlnpcaaDoorAbs.St.next_withLow, Nat.reduceAdd, Nat.reduceLeDiff] <;> omega) | fail) only [↓DN, ↓reduceIte, UP, CGB, Int.reduceEq, Int.reduceLT, Int.reduceLE, Nat.reduceEqDiff, Nat.reduceAdd, Nat.reduceMul, Nat.reduceSub, Int.reduceToNat, Nat.reduceLeDiff, PF, isStop, isP, goInt, beq_self_eq_true, decide_true, decide_false, Int.toNat_natCast, Int.natCast_zero])
    | ((with_reducible refine CB_intro (fun ht => hcA ?_) (fun ht => hcB ?_)) <;> (first | (simp only [Bool.true_eq_false, Bool.false_eq_true] at ht; done) | ((try simp only [Bool.not_eq_true', Bool.not_eq_false'] at ht); (try simp only [ht]); (try simp only [HTN] at ht); (try (exfalso; omega)))))
    | ((with_reducible refine W_regionI ?_); simp only [List.append_eq, List.cons_append, List.nil_append])
    | (with_reducible refine O_splitG fun cA cB hcA hcB => ?_)
    | (exact hq))
  have hd1 : decide ((i : Int) = -1) = false := decide_eq_false (by omega)
  have hG : Gr 50 2 S0 S1 v l.length (fldv l) := by
    rcases hC.keep k1 with q | ⟨q, _⟩
    · exact q
    · subst q; simp at hi
  obtain ⟨b, m0, ev, g0, hm0, hbn⟩ := own_some hG.own (by omega)
  have hbS0 := hG.new b (by rw [ev]; rfl)
  subst ev
  have hfl := fldv_len l
  have hp1 := k1.kept.get hpn hp
  have hpn1 : p < S1.next := Nat.lt_of_lt_of_le hpn k1.1
  have hbp : b ≠ p := fun q => by
    rw [q, hp1] at g0
    exact absurd (Blk.mk.inj (Option.some.inj g0)).2.1 (by decide)
  have cv : callable Tryd.prog 85 = true := by kernel_rfl
  have wi1 : IntKind.i64.wrap ((i : Int) + 1) = ((i + 1 : Nat) : Int) := by rw [Go.Proofs.YtdmbgbennlnpcaaDoorAbs.wp64 (by omega) (by omega)]; omega
  repeat' (first
    | (with_reducible first | refine W_pushC fun K hK => ?_ | refine W_blockI ?_ | refine W_scopeI ?_ | refine W_labelI ?_ | refine W_skipI ?_ | refine W_retI ?_ | refine W_exitI ?_ | refine then_normalI ?_ | refine then_retI ?_ | refine then_exitI ?_ | refine inBlock_normalI ?_ | refine inBlock_retI ?_ | refine inBlock_exitI ?_ | refine inBlock_exitN (by decide) ?_)
    | ((with_reducible first | refine bodyQ_normal0 ?_ | refine bodyQ_normal1 ?_ | refine bodyQ_normal2 ?_ | refine bodyQ_normal3 ?_ | refine bodyQ_normal4 ?_ | refine bodyQ_ret0 ?_ | refine bodyQ_ret1 ?_ | refine bodyQ_ret2 ?_ | refine bodyQ_ret3 ?_ | refine bodyQ_ret4 ?_); (try simp only [EVB, Nat.reduceEqDiff, reduceIte]))
    | (with_reducible refine Cont.use (by assumption) ?_)
    | (with_reducible first | refine hcA ?_ | refine hcB ?_)
    | ((with_reducible first | refine W_condG fun cA cB hcA hcB => ?_ | refine W_regionI ?_ | show O _ _ _ _ _ _ _ _ | show OK _ _ _ _ _ _ _ _ _ | show OKF _ _ _ _ _ _ _ _ _ _ | show OKT _ _ _ _ _ _ _ _ _ _ _ _ | show _ ∧ _ | show CG _ _ _ | show CB _ _ _); simp (disch := first | ((with_reducible show isStop _ = false); rfl) | ((with_reducible show isP _ = true); rfl) | ((with_reducible show (isStop _ || isP _) = false); rfl) | assumption | (simp only [GSB, Nat.reduceEqDiff, reduceIte]; done) | omega | (with_reducible decide) | (simp only [DSB, Go.Proofs.YtdmbgbennlnpcaaDoorAbs.oneC, Go.Proofs.YtdmbgbennlnpcaaDoorAbs.St.next_withLow, Nat.reduceAdd, Nat.reduceLeDiff] <;> omega) | fail) only [↓DN, ↓reduceIte, UP, CGB, Int.reduceEq, Int.reduceLT, Int.reduceLE, Nat.reduceEqDiff, Nat.reduceAdd, Nat.reduceMul, Nat.reduceSub, Int.reduceToNat, Nat.reduceLeDiff, PF, isStop, isP, goInt, beq_self_eq_true, decide_true, decide_false, Int.toNat_natCast, Int.natCast_zero, hd1, wi1])
    | ((with_reducible refine CB_intro (fun ht => hcA ?_) (fun ht => hcB ?_)) <;> (first | (simp only [Bool.true_eq_false, Bool.false_eq_true] at ht; done) | ((try simp only [Bool.not_eq_true', Bool.not_eq_false'] at ht); (try simp only [ht]); (try simp only [HTN] at ht); (try (exfalso; omega)))))
    | ((with_reducible refine W_regionI ?_); simp only [List.append_eq, List.cons_append, List.nil_append])
    | (with_reducible refine O_splitG fun cA cB hcA hcB => ?_))
  rw [hfl]
  refine W_loop (fun z e S2 => ∃ (i' j m : Nat) (cs : List Value), e.get 0 = .slice (some ⟨b, 0, some (l.length * 2)⟩) l.length (UNK + 2) ∧ e.get 1 = nmV p ∧ e.get 5 = .int .i64 i' ∧ e.get 6 = .int .i64 j ∧ j ≤ l.length ∧ z = l.length - j ∧ KpL S0 S2 ∧ S2.get b = some ⟨cs, 50, true, m⟩ ∧ m ≤ l.length * 2 ∧ cs.length = l.length * 2 ∧ cs.take (i' * 2) = fldv (delF (l.take j) name) ∧ i' = (delF (l.take j) name).length ∧ i' < j ∧ cs.drop (j * 2) = fldv (l.drop j) ∧ S2.get p = some ⟨[.string name], 9, true, 0⟩ ∧ b < S2.next ∧ p < S2.next) (l.length - (i + 1)) ⟨i, i + 1, m0, fldv l, by simp only [EVB, Nat.reduceEqDiff, reduceIte], by simp only [EVB, Nat.reduceEqDiff, reduceIte], by simp only [EVB, Nat.reduceEqDiff, reduceIte], by simp only [EVB, Nat.reduceEqDiff, reduceIte], by omega, by omega, hG.kp, g0, by omega, hfl, ?_, ?_, by omega, fldv_drop l (i + 1), hp1, hbn, hpn1⟩ ?_
  · rw [del_step hi, if_pos hs, List.append_nil, del_no hno, fldv_take]
  · rw [del_step hi, if_pos hs, List.append_nil, del_no hno]; simp; omega
  rintro z e S2 ⟨i', j, m, cs, e0, e1, e5, e6, hj, hz, kS, gb, hm', hcl, hct, hi', hij, hcd, gp, hb2, hp2⟩
  have wj : IntKind.i64.wrap ((j : Int) + 1) = ((j + 1 : Nat) : Int) := by rw [Go.Proofs.YtdmbgbennlnpcaaDoorAbs.wp64 (by omega) (by omega)]; omega
  have wi : IntKind.i64.wrap ((i' : Int) + 1) = ((i' + 1 : Nat) : Int) := by rw [Go.Proofs.YtdmbgbennlnpcaaDoorAbs.wp64 (by omega) (by omega)]; omega
  by_cases hlt : j < l.length
  · have hd : decide ((j : Int) < (l.length : Int)) = true := decide_eq_true (by omega)
    have hrow : Go.Proofs.YtdmbgbennlnpcaaDoorAbs.rowAt (S2.get b) (j * 2) 2 (l.length * 2) = some (.agg #[.string (l[j]).1, .string (l[j]).2]) := by
      rw [gb, Go.Proofs.YtdmbgbennlnpcaaDoorAbs.rowAt_own (by omega) (by omega) (by omega), hcd, List.drop_eq_getElem_cons hlt]; rfl
    have hfs := hsz l[j] (List.getElem_mem hlt)
    have hst := del_step (name := name) hlt
    have hcd2 : cs.drop ((j + 1) * 2) = fldv (l.drop (j + 1)) := by
      rw [show (j + 1) * 2 = j * 2 + 2 by omega, ← List.drop_drop, hcd, List.drop_eq_getElem_cons hlt]; rfl
    simp only [nmV] at e1
    obtain ⟨S3, hS3⟩ : ∃ S3, (S2.push ⟨[.string ⟨#[]⟩, .string ⟨#[]⟩], 50, true, 0⟩).upd S2.next ⟨[.string (l[j]).1, .string (l[j]).2], 50, true, 2⟩ = S3 := ⟨_, rfl⟩
    have k23 : KpL S2 S3 := by rw [← hS3]; exact KpL.upd (KpL.push _ _) (Nat.le_refl _) _
    have g3 : S3.get S2.next = some ⟨[.string (l[j]).1, .string (l[j]).2], 50, true, 2⟩ := by rw [← hS3]; exact St.get_upd_self _ _ _
    have n3 : S3.next = S2.next + 1 := by rw [← hS3]; rfl
    have gp3 := k23.kept.get hp2 gp
    have fin : ∀ S4, KpL S3 S4 → S4.get b = some ⟨cs, 50, true, m⟩ ∧ S4.get p = some ⟨[.string name], 9, true, 0⟩ ∧ b < S4.next ∧ p < S4.next ∧ S4.get S2.next = some ⟨[.string (l[j]).1, .string (l[j]).2], 50, true, 2⟩ ∧ KpL S0 S4 := fun S4 k4 =>
      ⟨(k23.trans k4).kept.get hb2 gb, (k23.trans k4).kept.get hp2 gp, Nat.lt_of_lt_of_le hb2 (k23.trans k4).1, Nat.lt_of_lt_of_le hp2 (k23.trans k4).1, k4.kept.get (by omega) g3, kS.trans (k23.trans k4)⟩
    generalize hf : l[j] = f at *
    repeat' (first
    | (with_reducible first | refine W_pushC fun K hK => ?_ | refine W_blockI ?_ | refine W_scopeI ?_ | refine W_labelI ?_ | refine W_skipI ?_ | refine W_retI ?_ | refine W_exitI ?_ | refine then_normalI ?_ | refine then_retI ?_ | refine then_exitI ?_ | refine inBlock_normalI ?_ | refine inBlock_retI ?_ | refine inBlock_exitI ?_ | refine inBlock_exitN (by decide) ?_)
    | ((with_reducible first | refine bodyQ_normal0 ?_ | refine bodyQ_normal1 ?_ | refine bodyQ_normal2 ?_ | refine bodyQ_normal3 ?_ | refine bodyQ_normal4 ?_ | refine bodyQ_ret0 ?_ | refine bodyQ_ret1 ?_ | refine bodyQ_ret2 ?_ | refine bodyQ_ret3 ?_ | refine bodyQ_ret4 ?_); (try simp only [EVB, Nat.reduceEqDiff, reduceIte]))
    | (with_reducible refine Cont.use (by assumption) ?_)
    | (with_reducible first | refine hcA ?_ | refine hcB ?_)
    | ((with_reducible first | refine W_condG fun cA cB hcA hcB => ?_ | refine W_regionI ?_ | show O _ _ _ _ _ _ _ _ | show OK _ _ _ _ _ _ _ _ _ | show OKF _ _ _ _ _ _ _ _ _ _ | show OKT _ _ _ _ _ _ _ _ _ _ _ _ | show _ ∧ _ | show CG _ _ _ | show CB _ _ _); simp (disch := first | ((with_reducible show isStop _ = false); rfl) | ((with_reducible show isP _ = true); rfl) | ((with_reducible show (isStop _ || isP _) = false); rfl) | assumption | (simp only [GSB, Nat.reduceEqDiff, reduceIte]; done) | omega | (with_reducible decide) | (simp only [DSB, Go.Proofs.YtdmbgbennlnpcaaDoorAbs.oneC, Go.Proofs.YtdmbgbennlnpcaaDoorAbs.St.next_withLow, Nat.reduceAdd, Nat.reduceLeDiff] <;> omega) | fail) only [↓DN, ↓reduceIte, UP, CGB, Int.reduceEq, Int.reduceLT, Int.reduceLE, Nat.reduceEqDiff, Nat.reduceAdd, Nat.reduceMul, Nat.reduceSub, Int.reduceToNat, Nat.reduceLeDiff, PF, isStop, isP, goInt, beq_self_eq_true, decide_true, decide_false, Int.toNat_natCast, Int.natCast_zero, hd, e0, e1, e5, e6, hrow, hS3, g3, cv])
    | ((with_reducible refine CB_intro (fun ht => hcA ?_) (fun ht => hcB ?_)) <;> (first | (simp only [Bool.true_eq_false, Bool.false_eq_true] at ht; done) | ((try simp only [Bool.not_eq_true', Bool.not_eq_false'] at ht); (try simp only [ht]); (try simp only [HTN] at ht); (try (exfalso; omega)))))
    | ((with_reducible refine W_regionI ?_); simp only [List.append_eq, List.cons_append, List.nil_append])
    | (with_reducible refine O_splitG fun cA cB hcA hcB => ?_))
    refine is_L h gp3 (by omega) hfs.1 hm fun S4 k4 => ?_
    obtain ⟨f1, f2, f3, f4, f5, f6⟩ := fin S4 k4
    by_cases hs : isN name f = true
    · have hs' : sameB f.1 name = true := hs
      rw [hs']
      rw [if_pos hs, List.append_nil] at hst
      repeat' (first
    | (with_reducible first | refine W_pushC fun K hK => ?_ | refine W_blockI ?_ | refine W_scopeI ?_ | refine W_labelI ?_ | refine W_skipI ?_ | refine W_retI ?_ | refine W_exitI ?_ | refine then_normalI ?_ | refine then_retI ?_ | refine then_exitI ?_ | refine inBlock_normalI ?_ | refine inBlock_retI ?_ | refine inBlock_exitI ?_ | refine inBlock_exitN (by decide) ?_)
    | ((with_reducible first | refine bodyQ_normal0 ?_ | refine bodyQ_normal1 ?_ | refine bodyQ_normal2 ?_ | refine bodyQ_normal3 ?_ | refine bodyQ_normal4 ?_ | refine bodyQ_ret0 ?_ | refine bodyQ_ret1 ?_ | refine bodyQ_ret2 ?_ | refine bodyQ_ret3 ?_ | refine bodyQ_ret4 ?_); (try simp only [EVB, Nat.reduceEqDiff, reduceIte]))
    | (with_reducible refine Cont.use (by assumption) ?_)
    | (with_reducible first | refine hcA ?_ | refine hcB ?_)
    | ((with_reducible first | refine W_condG fun cA cB hcA hcB => ?_ | refine W_regionI ?_ | show O _ _ _ _ _ _ _ _ | show OK _ _ _ _ _ _ _ _ _ | show OKF _ _ _ _ _ _ _ _ _ _ | show OKT _ _ _ _ _ _ _ _ _ _ _ _ | show _ ∧ _ | show CG _ _ _ | show CB _ _ _); simp (disch := first | ((with_reducible show isStop _ = false); rfl) | ((with_reducible show isP _ = true); rfl) | ((with_reducible show (isStop _ || isP _) = false); rfl) | assumption | (simp only [GSB, Nat.reduceEqDiff, reduceIte]; done) | omega | (with_reducible decide) | (simp only [DSB, Go.Proofs.YtdmbgbennlnpcaaDoorAbs.oneC, Go.Proofs.YtdmbgbennlnpcaaDoorAbs.St.next_withLow, Nat.reduceAdd, Nat.reduceLeDiff] <;> omega) | fail) only [↓DN, ↓reduceIte, UP, CGB, Int.reduceEq, Int.reduceLT, Int.reduceLE, Nat.reduceEqDiff, Nat.reduceAdd, Nat.reduceMul, Nat.reduceSub, Int.reduceToNat, Nat.reduceLeDiff, PF, isStop, isP, goInt, beq_self_eq_true, decide_true, decide_false, Int.toNat_natCast, Int.natCast_zero, e0, e1, e5, e6, wj])
    | ((with_reducible refine CB_intro (fun ht => hcA ?_) (fun ht => hcB ?_)) <;> (first | (simp only [Bool.true_eq_false, Bool.false_eq_true] at ht; done) | ((try simp only [Bool.not_eq_true', Bool.not_eq_false'] at ht); (try simp only [ht]); (try simp only [HTN] at ht); (try (exfalso; omega)))))
    | ((with_reducible refine W_regionI ?_); simp only [List.append_eq, List.cons_append, List.nil_append])
    | (with_reducible refine O_splitG fun cA cB hcA hcB => ?_)
    | ((refine ⟨_, ?_, i', j + 1, m, cs, by simp only [EVB, Nat.reduceEqDiff, reduceIte, e0], by simp only [EVB, Nat.reduceEqDiff, reduceIte, e1]; rfl, by simp only [EVB, Nat.reduceEqDiff, reduceIte, e5], by simp only [EVB, Nat.reduceEqDiff, reduceIte], by omega, rfl, f6, f1, hm', hcl, by rw [hst]; exact hct, by rw [hst]; exact hi', by omega, hcd2, f2, f3, f4⟩; omega)))
    · have hs : isN name f = false := by simpa using hs
      have hs' : sameB f.1 name = false := hs
      rw [hs']
      rw [hs, if_neg (by decide)] at hst
      have hst4 : storeAt S4 b (S4.get b) (i' * 2) (l.length * 2) #[.string f.1, .string f.2] = some (S4.upd b ⟨cs.take (i' * 2) ++ [.string f.1, .string f.2] ++ cs.drop (i' * 2 + 2), 50, true, l.length * 2⟩) := by
        rw [f1, storeAt_own hcl.symm hm' (by simp; omega) f3 rfl, hcl]
        rfl
      have hl1 : (cs.take (i' * 2) ++ [Value.string f.1, .string f.2] ++ cs.drop (i' * 2 + 2)).length = l.length * 2 := by simp; omega
      have hl0 : (cs.take (i' * 2)).length = i' * 2 := by simp; omega
      have ht1 : (cs.take (i' * 2) ++ [Value.string f.1, .string f.2] ++ cs.drop (i' * 2 + 2)).take ((i' + 1) * 2) = fldv (delF (l.take (j + 1)) name) := by
        rw [hst, fldv_snoc, ← hct, List.take_left' (by simp; omega)]
      have hd1 : (cs.take (i' * 2) ++ [Value.string f.1, .string f.2] ++ cs.drop (i' * 2 + 2)).drop ((j + 1) * 2) = fldv (l.drop (j + 1)) := by
        rw [List.drop_append, List.drop_of_length_le (by simp; omega), List.nil_append, List.drop_drop, ← hcd2]
        congr 1
        simp; omega
      repeat' (first
    | (with_reducible first | refine W_pushC fun K hK => ?_ | refine W_blockI ?_ | refine W_scopeI ?_ | refine W_labelI ?_ | refine W_skipI ?_ | refine W_retI ?_ | refine W_exitI ?_ | refine then_normalI ?_ | refine then_retI ?_ | refine then_exitI ?_ | refine inBlock_normalI ?_ | refine inBlock_retI ?_ | refine inBlock_exitI ?_ | refine inBlock_exitN (by decide) ?_)
    | ((with_reducible first | refine bodyQ_normal0 ?_ | refine bodyQ_normal1 ?_ | refine bodyQ_normal2 ?_ | refine bodyQ_normal3 ?_ | refine bodyQ_normal4 ?_ | refine bodyQ_ret0 ?_ | refine bodyQ_ret1 ?_ | refine bodyQ_ret2 ?_ | refine bodyQ_ret3 ?_ | refine bodyQ_ret4 ?_); (try simp only [EVB, Nat.reduceEqDiff, reduceIte]))
    | (with_reducible refine Cont.use (by assumption) ?_)
    | (with_reducible first | refine hcA ?_ | refine hcB ?_)
    | ((with_reducible first | refine W_condG fun cA cB hcA hcB => ?_ | refine W_regionI ?_ | show O _ _ _ _ _ _ _ _ | show OK _ _ _ _ _ _ _ _ _ | show OKF _ _ _ _ _ _ _ _ _ _ | show OKT _ _ _ _ _ _ _ _ _ _ _ _ | show _ ∧ _ | show CG _ _ _ | show CB _ _ _); simp (disch := first | ((with_reducible show isStop _ = false); rfl) | ((with_reducible show isP _ = true); rfl) | ((with_reducible show (isStop _ || isP _) = false); rfl) | assumption | (simp only [GSB, Nat.reduceEqDiff, reduceIte]; done) | omega | (with_reducible decide) | (simp only [DSB, Go.Proofs.YtdmbgbennlnpcaaDoorAbs.oneC, Go.Proofs.YtdmbgbennlnpcaaDoorAbs.St.next_withLow, Nat.reduceAdd, Nat.reduceLeDiff] <;> omega) | fail) only [↓DN, ↓reduceIte, UP, CGB, Int.reduceEq, Int.reduceLT, Int.reduceLE, Nat.reduceEqDiff, Nat.reduceAdd, Nat.reduceMul, Nat.reduceSub, Int.reduceToNat, Nat.reduceLeDiff, PF, isStop, isP, goInt, beq_self_eq_true, decide_true, decide_false, Int.toNat_natCast, Int.natCast_zero, e0, e1, e5, e6, wj, wi, f5, hst4])
    | ((with_reducible refine CB_intro (fun ht => hcA ?_) (fun ht => hcB ?_)) <;> (first | (simp only [Bool.true_eq_false, Bool.false_eq_true] at ht; done) | ((try simp only [Bool.not_eq_true', Bool.not_eq_false'] at ht); (try simp only [ht]); (try simp only [HTN] at ht); (try (exfalso; omega)))))
    | ((with_reducible refine W_regionI ?_); simp only [List.append_eq, List.cons_append, List.nil_append])
    | (with_reducible refine O_splitG fun cA cB hcA hcB => ?_)
    | ((refine ⟨_, ?_, i' + 1, j + 1, l.length * 2, _, by simp only [EVB, Nat.reduceEqDiff, reduceIte, e0], by simp only [EVB, Nat.reduceEqDiff, reduceIte, e1]; rfl, by simp only [EVB, Nat.reduceEqDiff, reduceIte], by simp only [EVB, Nat.reduceEqDiff, reduceIte], by omega, rfl, f6.upd hbS0 _, St.get_upd_self _ _ _, Nat.le_refl _, hl1, ht1, by rw [hst]; simp; omega, by omega, hd1, by rw [St.get_upd_ne _ _ (Ne.symm hbp)]; exact f2, f3, f4⟩; omega)))
  · have hd : decide ((j : Int) < (l.length : Int)) = false := decide_eq_false (by omega)
    have hjl : j = l.length := by omega
    rw [List.take_of_length_le (show l.length ≤ j by omega)] at hct hi'
    obtain ⟨zs, hzs, hzl, hz1⟩ : ∃ zs : List Value, (Builtin.zeroCells (Value.agg #[.string ⟨#[]⟩, .string ⟨#[]⟩]).cells (l.length - i')).toList = zs ∧ zs.length = (l.length - i') * 2 ∧ zs.all oneC = true := by
      refine ⟨_, rfl, ?_, ?_⟩
      · rw [Array.length_toList, zeroCells_size]; rfl
      · rw [List.all_eq_true]
        intro x hx
        simp only [Builtin.zeroCells, Array.toList_map, List.mem_map] at hx
        obtain ⟨k, _, rfl⟩ := hx
        show oneC ((#[Value.string ⟨#[]⟩, .string ⟨#[]⟩] : Array Value)[k % 2]!) = true
        rcases Nat.mod_two_eq_zero_or_one k with q | q <;> rw [q] <;> rfl
    have hcs : (cs.take (i' * 2) ++ zs ++ cs.drop (i' * 2 + zs.length)).length = l.length * 2 := by simp; omega
    have hclr : abuiltin Tryd.prog S2 .clear [22] [.slice (some ⟨b, i' * 2, some (l.length * 2)⟩) (l.length - i') (UNK + 2)] = some (.tuple #[], S2.upd b ⟨cs.take (i' * 2) ++ zs ++ cs.drop (i' * 2 + zs.length), 50, true, l.length * 2⟩) := by
      have hsc : scalar (Value.agg #[.string ⟨#[]⟩, .string ⟨#[]⟩]) = true ∧ 0 < (Value.agg #[.string ⟨#[]⟩, .string ⟨#[]⟩]).cells.size := ⟨by kernel_rfl, by decide⟩
      have haw : awrite S2 ⟨b, i' * 2, some (l.length * 2)⟩ zs = some (S2.upd b ⟨cs.take (i' * 2) ++ zs ++ cs.drop (i' * 2 + zs.length), 50, true, l.length * 2⟩) := by
        unfold awrite
        simp only [gb]
        rw [if_pos ⟨trivial, hcl.symm, hm', by omega, hb2, hz1⟩, hcl]
      show aclear Tryd.prog S2 22 (.slice (some ⟨b, i' * 2, some (l.length * 2)⟩) (l.length - i') (UNK + 2)) = _
      unfold aclear
      simp only [u22, ze50, if_neg (show ¬ l.length - i' = 0 by omega), hzs, haw, Option.map_some]
      rw [if_pos hsc]
    have hfin : DR S0 (S2.upd b ⟨cs.take (i' * 2) ++ zs ++ cs.drop (i' * 2 + zs.length), 50, true, l.length * 2⟩) (.slice (some ⟨b, 0, some (l.length * 2)⟩) i' (UNK + 2)) (delF l name) := by
      refine ⟨kS.upd hbS0 _, .inr ⟨b, _, _, _, by rw [hcs, ← hi'], St.get_upd_self _ _ _, by rw [hcs]; exact Nat.le_refl _, ?_, by rw [hcs]; omega, hb2, hbS0⟩⟩
      rw [← hi', ← hct, List.append_assoc, List.take_left' (by simp; omega)]
    repeat' (first
    | (with_reducible first | refine W_pushC fun K hK => ?_ | refine W_blockI ?_ | refine W_scopeI ?_ | refine W_labelI ?_ | refine W_skipI ?_ | refine W_retI ?_ | refine W_exitI ?_ | refine then_normalI ?_ | refine then_retI ?_ | refine then_exitI ?_ | refine inBlock_normalI ?_ | refine inBlock_retI ?_ | refine inBlock_exitI ?_ | refine inBlock_exitN (by decide) ?_)
    | ((with_reducible first | refine bodyQ_normal0 ?_ | refine bodyQ_normal1 ?_ | refine bodyQ_normal2 ?_ | refine bodyQ_normal3 ?_ | refine bodyQ_normal4 ?_ | refine bodyQ_ret0 ?_ | refine bodyQ_ret1 ?_ | refine bodyQ_ret2 ?_ | refine bodyQ_ret3 ?_ | refine bodyQ_ret4 ?_); (try simp only [EVB, Nat.reduceEqDiff, reduceIte]))
    | (with_reducible refine Cont.use (by assumption) ?_)
    | (with_reducible first | refine hcA ?_ | refine hcB ?_)
    | ((with_reducible first | refine W_condG fun cA cB hcA hcB => ?_ | refine W_regionI ?_ | show O _ _ _ _ _ _ _ _ | show OK _ _ _ _ _ _ _ _ _ | show OKF _ _ _ _ _ _ _ _ _ _ | show OKT _ _ _ _ _ _ _ _ _ _ _ _ | show _ ∧ _ | show CG _ _ _ | show CB _ _ _); simp (disch := first | ((with_reducible show isStop _ = false); rfl) | ((with_reducible show isP _ = true); rfl) | ((with_reducible show (isStop _ || isP _) = false); rfl) | assumption | (simp only [GSB, Nat.reduceEqDiff, reduceIte]; done) | omega | (with_reducible decide) | (simp only [DSB, Go.Proofs.YtdmbgbennlnpcaaDoorAbs.oneC, Go.Proofs.YtdmbgbennlnpcaaDoorAbs.St.next_withLow, Nat.reduceAdd, Nat.reduceLeDiff] <;> omega) | fail) only [↓DN, ↓reduceIte, UP, CGB, Int.reduceEq, Int.reduceLT, Int.reduceLE, Nat.reduceEqDiff, Nat.reduceAdd, Nat.reduceMul, Nat.reduceSub, Int.reduceToNat, Nat.reduceLeDiff, PF, isStop, isP, goInt, beq_self_eq_true, decide_true, decide_false, Int.toNat_natCast, Int.natCast_zero, hd, e0, e1, e5, e6, hclr])
    | ((with_reducible refine CB_intro (fun ht => hcA ?_) (fun ht => hcB ?_)) <;> (first | (simp only [Bool.true_eq_false, Bool.false_eq_true] at ht; done) | ((try simp only [Bool.not_eq_true', Bool.not_eq_false'] at ht); (try simp only [ht]); (try simp only [HTN] at ht); (try (exfalso; omega)))))
    | ((with_reducible refine W_regionI ?_); simp only [List.append_eq, List.cons_append, List.nil_append])
    | (with_reducible refine O_splitG fun cA cB hcA hcB => ?_)
    | (exact hQ _ _ hfin))
theorem Del_L (h : HP I) {v : Value} {l : List Fld} {name : ByteArray} (hS : SR S v l) (hN : NN v l.length) (hn : l.length ≤ 1048576) (hsz : ∀ f ∈ l, f.1.size ≤ 1048576 ∧ f.2.size ≤ 1048576) (hm : name.size ≤ 1048576)
    (hQ : ∀ v' S', DR S S' v' (delF l name) → Q v' S') : C Tryd.prog I 25 #[v, .string name] S Q := by
  refine C_body (rs := [.tmp 4]) (h.no 25 (by decide)) Tryd.func25 rfl rfl ok25 ?_
  obtain ⟨sz24, u9, sz3, u3, sz9, sz22, u22, u25, sz5, u5, sz38, u4, sz49, sz50, u58, u70, sz85, sz98, u103, sz25, u114, sz113, u88, sz27, sz108, u108, sz4, sz96, u96, u2, sz123, u123, sz130, u130, u139, sz103, u140, sz141, u142, u141, u21⟩ := UF
  repeat' (first
    | (with_reducible first | refine W_pushC fun K hK => ?_ | refine W_blockI ?_ | refine W_scopeI ?_ | refine W_labelI ?_ | refine W_skipI ?_ | refine W_retI ?_ | refine W_exitI ?_ | refine then_normalI ?_ | refine then_retI ?_ | refine then_exitI ?_ | refine inBlock_normalI ?_ | refine inBlock_retI ?_ | refine inBlock_exitI ?_ | refine inBlock_exitN (by decide) ?_)
    | ((with_reducible first | refine bodyQ_normal0 ?_ | refine bodyQ_normal1 ?_ | refine bodyQ_normal2 ?_ | refine bodyQ_normal3 ?_ | refine bodyQ_normal4 ?_ | refine bodyQ_ret0 ?_ | refine bodyQ_ret1 ?_ | refine bodyQ_ret2 ?_ | refine bodyQ_ret3 ?_ | refine bodyQ_ret4 ?_); (try simp only [EVB, Nat.reduceEqDiff, reduceIte]))
    | (with_reducible refine Cont.use (by assumption) ?_)
    | (with_reducible first | refine hcA ?_ | refine hcB ?_)
    | ((with_reducible first | refine W_condG fun cA cB hcA hcB => ?_ | refine W_regionI ?_ | show O _ _ _ _ _ _ _ _ | show OK _ _ _ _ _ _ _ _ _ | show OKF _ _ _ _ _ _ _ _ _ _ | show OKT _ _ _ _ _ _ _ _ _ _ _ _ | show _ ∧ _ | show CG _ _ _ | show CB _ _ _); simp (disch := first | ((with_reducible show isStop _ = false); rfl) | ((with_reducible show isP _ = true); rfl) | ((with_reducible show (isStop _ || isP _) = false); rfl) | assumption | (simp only [GSB, Nat.reduceEqDiff, reduceIte]; done) | omega | (with_reducible decide) | (simp only [DSB, Go.Proofs.YtdmbgbennlnpcaaDoorAbs.oneC, Go.Proofs.YtdmbgbennlnpcaaDoorAbs.St.next_withLow, Nat.reduceAdd, Nat.reduceLeDiff] <;> omega) | fail) only [↓DN, ↓reduceIte, UP, CGB, Int.reduceEq, Int.reduceLT, Int.reduceLE, Nat.reduceEqDiff, Nat.reduceAdd, Nat.reduceMul, Nat.reduceSub, Int.reduceToNat, Nat.reduceLeDiff, PF, isStop, isP, goInt, beq_self_eq_true, decide_true, decide_false, Int.toNat_natCast, Int.natCast_zero])
    | ((with_reducible refine CB_intro (fun ht => hcA ?_) (fun ht => hcB ?_)) <;> (first | (simp only [Bool.true_eq_false, Bool.false_eq_true] at ht; done) | ((try simp only [Bool.not_eq_true', Bool.not_eq_false'] at ht); (try simp only [ht]); (try simp only [HTN] at ht); (try (exfalso; omega)))))
    | ((with_reducible refine W_regionI ?_); simp only [List.append_eq, List.cons_append, List.nil_append])
    | (with_reducible refine O_splitG fun cA cB hcA hcB => ?_))
  refine Clone_L h hS hN hn fun v1 S1 hC => ?_
  repeat' (first
    | (with_reducible first | refine W_pushC fun K hK => ?_ | refine W_blockI ?_ | refine W_scopeI ?_ | refine W_labelI ?_ | refine W_skipI ?_ | refine W_retI ?_ | refine W_exitI ?_ | refine then_normalI ?_ | refine then_retI ?_ | refine then_exitI ?_ | refine inBlock_normalI ?_ | refine inBlock_retI ?_ | refine inBlock_exitI ?_ | refine inBlock_exitN (by decide) ?_)
    | ((with_reducible first | refine bodyQ_normal0 ?_ | refine bodyQ_normal1 ?_ | refine bodyQ_normal2 ?_ | refine bodyQ_normal3 ?_ | refine bodyQ_normal4 ?_ | refine bodyQ_ret0 ?_ | refine bodyQ_ret1 ?_ | refine bodyQ_ret2 ?_ | refine bodyQ_ret3 ?_ | refine bodyQ_ret4 ?_); (try simp only [EVB, Nat.reduceEqDiff, reduceIte]))
    | (with_reducible refine Cont.use (by assumption) ?_)
    | (with_reducible first | refine hcA ?_ | refine hcB ?_)
    | ((with_reducible first | refine W_condG fun cA cB hcA hcB => ?_ | refine W_regionI ?_ | show O _ _ _ _ _ _ _ _ | show OK _ _ _ _ _ _ _ _ _ | show OKF _ _ _ _ _ _ _ _ _ _ | show OKT _ _ _ _ _ _ _ _ _ _ _ _ | show _ ∧ _ | show CG _ _ _ | show CB _ _ _); simp (disch := first | ((with_reducible show isStop _ = false); rfl) | ((with_reducible show isP _ = true); rfl) | ((with_reducible show (isStop _ || isP _) = false); rfl) | assumption | (simp only [GSB, Nat.reduceEqDiff, reduceIte]; done) | omega | (with_reducible decide) | (simp only [DSB, Go.Proofs.YtdmbgbennlnpcaaDoorAbs.oneC, Go.Proofs.YtdmbgbennlnpcaaDoorAbs.St.next_withLow, Nat.reduceAdd, Nat.reduceLeDiff] <;> omega) | fail) only [↓DN, ↓reduceIte, UP, CGB, Int.reduceEq, Int.reduceLT, Int.reduceLE, Nat.reduceEqDiff, Nat.reduceAdd, Nat.reduceMul, Nat.reduceSub, Int.reduceToNat, Nat.reduceLeDiff, PF, isStop, isP, goInt, beq_self_eq_true, decide_true, decide_false, Int.toNat_natCast, Int.natCast_zero])
    | ((with_reducible refine CB_intro (fun ht => hcA ?_) (fun ht => hcB ?_)) <;> (first | (simp only [Bool.true_eq_false, Bool.false_eq_true] at ht; done) | ((try simp only [Bool.not_eq_true', Bool.not_eq_false'] at ht); (try simp only [ht]); (try simp only [HTN] at ht); (try (exfalso; omega)))))
    | ((with_reducible refine W_regionI ?_); simp only [List.append_eq, List.cons_append, List.nil_append])
    | (with_reducible refine O_splitG fun cA cB hcA hcB => ?_))
  refine named_L h fun S2 k2 g2 n2 => ?_
  repeat' (first
    | (with_reducible first | refine W_pushC fun K hK => ?_ | refine W_blockI ?_ | refine W_scopeI ?_ | refine W_labelI ?_ | refine W_skipI ?_ | refine W_retI ?_ | refine W_exitI ?_ | refine then_normalI ?_ | refine then_retI ?_ | refine then_exitI ?_ | refine inBlock_normalI ?_ | refine inBlock_retI ?_ | refine inBlock_exitI ?_ | refine inBlock_exitN (by decide) ?_)
    | ((with_reducible first | refine bodyQ_normal0 ?_ | refine bodyQ_normal1 ?_ | refine bodyQ_normal2 ?_ | refine bodyQ_normal3 ?_ | refine bodyQ_normal4 ?_ | refine bodyQ_ret0 ?_ | refine bodyQ_ret1 ?_ | refine bodyQ_ret2 ?_ | refine bodyQ_ret3 ?_ | refine bodyQ_ret4 ?_); (try simp only [EVB, Nat.reduceEqDiff, reduceIte]))
    | (with_reducible refine Cont.use (by assumption) ?_)
    | (with_reducible first | refine hcA ?_ | refine hcB ?_)
    | ((with_reducible first | refine W_condG fun cA cB hcA hcB => ?_ | refine W_regionI ?_ | show O _ _ _ _ _ _ _ _ | show OK _ _ _ _ _ _ _ _ _ | show OKF _ _ _ _ _ _ _ _ _ _ | show OKT _ _ _ _ _ _ _ _ _ _ _ _ | show _ ∧ _ | show CG _ _ _ | show CB _ _ _); simp (disch := first | ((with_reducible show isStop _ = false); rfl) | ((with_reducible show isP _ = true); rfl) | ((with_reducible show (isStop _ || isP _) = false); rfl) | assumption | (simp only [GSB, Nat.reduceEqDiff, reduceIte]; done) | omega | (with_reducible decide) | (simp only [DSB, Go.Proofs.YtdmbgbennlnpcaaDoorAbs.oneC, Go.Proofs.YtdmbgbennlnpcaaDoorAbs.St.next_withLow, Nat.reduceAdd, Nat.reduceLeDiff] <;> omega) | fail) only [↓DN, ↓reduceIte, UP, CGB, Int.reduceEq, Int.reduceLT, Int.reduceLE, Nat.reduceEqDiff, Nat.reduceAdd, Nat.reduceMul, Nat.reduceSub, Int.reduceToNat, Nat.reduceLeDiff, PF, isStop, isP, goInt, beq_self_eq_true, decide_true, decide_false, Int.toNat_natCast, Int.natCast_zero])
    | ((with_reducible refine CB_intro (fun ht => hcA ?_) (fun ht => hcB ?_)) <;> (first | (simp only [Bool.true_eq_false, Bool.false_eq_true] at ht; done) | ((try simp only [Bool.not_eq_true', Bool.not_eq_false'] at ht); (try simp only [ht]); (try simp only [HTN] at ht); (try (exfalso; omega)))))
    | ((with_reducible refine W_regionI ?_); simp only [List.append_eq, List.cons_append, List.nil_append])
    | (with_reducible refine O_splitG fun cA cB hcA hcB => ?_))
  refine DeleteFunc_L h (hC.keep k2) g2 n2 hn hsz hm fun v3 S3 hD => ?_
  repeat' (first
    | (with_reducible first | refine W_pushC fun K hK => ?_ | refine W_blockI ?_ | refine W_scopeI ?_ | refine W_labelI ?_ | refine W_skipI ?_ | refine W_retI ?_ | refine W_exitI ?_ | refine then_normalI ?_ | refine then_retI ?_ | refine then_exitI ?_ | refine inBlock_normalI ?_ | refine inBlock_retI ?_ | refine inBlock_exitI ?_ | refine inBlock_exitN (by decide) ?_)
    | ((with_reducible first | refine bodyQ_normal0 ?_ | refine bodyQ_normal1 ?_ | refine bodyQ_normal2 ?_ | refine bodyQ_normal3 ?_ | refine bodyQ_normal4 ?_ | refine bodyQ_ret0 ?_ | refine bodyQ_ret1 ?_ | refine bodyQ_ret2 ?_ | refine bodyQ_ret3 ?_ | refine bodyQ_ret4 ?_); (try simp only [EVB, Nat.reduceEqDiff, reduceIte]))
    | (with_reducible refine Cont.use (by assumption) ?_)
    | (with_reducible first | refine hcA ?_ | refine hcB ?_)
    | ((with_reducible first | refine W_condG fun cA cB hcA hcB => ?_ | refine W_regionI ?_ | show O _ _ _ _ _ _ _ _ | show OK _ _ _ _ _ _ _ _ _ | show OKF _ _ _ _ _ _ _ _ _ _ | show OKT _ _ _ _ _ _ _ _ _ _ _ _ | show _ ∧ _ | show CG _ _ _ | show CB _ _ _); simp (disch := first | ((with_reducible show isStop _ = false); rfl) | ((with_reducible show isP _ = true); rfl) | ((with_reducible show (isStop _ || isP _) = false); rfl) | assumption | (simp only [GSB, Nat.reduceEqDiff, reduceIte]; done) | omega | (with_reducible decide) | (simp only [DSB, Go.Proofs.YtdmbgbennlnpcaaDoorAbs.oneC, Go.Proofs.YtdmbgbennlnpcaaDoorAbs.St.next_withLow, Nat.reduceAdd, Nat.reduceLeDiff] <;> omega) | fail) only [↓DN, ↓reduceIte, UP, CGB, Int.reduceEq, Int.reduceLT, Int.reduceLE, Nat.reduceEqDiff, Nat.reduceAdd, Nat.reduceMul, Nat.reduceSub, Int.reduceToNat, Nat.reduceLeDiff, PF, isStop, isP, goInt, beq_self_eq_true, decide_true, decide_false, Int.toNat_natCast, Int.natCast_zero])
    | ((with_reducible refine CB_intro (fun ht => hcA ?_) (fun ht => hcB ?_)) <;> (first | (simp only [Bool.true_eq_false, Bool.false_eq_true] at ht; done) | ((try simp only [Bool.not_eq_true', Bool.not_eq_false'] at ht); (try simp only [ht]); (try simp only [HTN] at ht); (try (exfalso; omega)))))
    | ((with_reducible refine W_regionI ?_); simp only [List.append_eq, List.cons_append, List.nil_append])
    | (with_reducible refine O_splitG fun cA cB hcA hcB => ?_)
    | (exact hQ _ _ hD))
theorem RDel_L (h : HP I) {v : Value} {l : List Fld} {name : ByteArray} (hF : RF S v l) (hn : l.length ≤ 1048576) (hsz : ∀ f ∈ l, f.1.size ≤ 1048576 ∧ f.2.size ≤ 1048576) (hm : name.size ≤ 1048576)
    (hQ : ∀ v' S', Gr 50 2 S S' v' (delF l name).length (fldv (delF l name)) → Q v' S') : C Tryd.prog I 28 #[v, .string name] S Q := by
  refine C_body (rs := [.tmp 4]) (h.no 28 (by decide)) Tryd.func28 rfl rfl ok28 ?_
  obtain ⟨sz24, u9, sz3, u3, sz9, sz22, u22, u25, sz5, u5, sz38, u4, sz49, sz50, u58, u70, sz85, sz98, u103, sz25, u114, sz113, u88, sz27, sz108, u108, sz4, sz96, u96, u2, sz123, u123, sz130, u130, u139, sz103, u140, sz141, u142, u141, u21⟩ := UF
  obtain ⟨a, k, ev, hrow⟩ := hF
  subst ev
  repeat' (first
    | (with_reducible first | refine W_pushC fun K hK => ?_ | refine W_blockI ?_ | refine W_scopeI ?_ | refine W_labelI ?_ | refine W_skipI ?_ | refine W_retI ?_ | refine W_exitI ?_ | refine then_normalI ?_ | refine then_retI ?_ | refine then_exitI ?_ | refine inBlock_normalI ?_ | refine inBlock_retI ?_ | refine inBlock_exitI ?_ | refine inBlock_exitN (by decide) ?_)
    | ((with_reducible first | refine bodyQ_normal0 ?_ | refine bodyQ_normal1 ?_ | refine bodyQ_normal2 ?_ | refine bodyQ_normal3 ?_ | refine bodyQ_normal4 ?_ | refine bodyQ_ret0 ?_ | refine bodyQ_ret1 ?_ | refine bodyQ_ret2 ?_ | refine bodyQ_ret3 ?_ | refine bodyQ_ret4 ?_); (try simp only [EVB, Nat.reduceEqDiff, reduceIte]))
    | (with_reducible refine Cont.use (by assumption) ?_)
    | (with_reducible first | refine hcA ?_ | refine hcB ?_)
    | ((with_reducible first | refine W_condG fun cA cB hcA hcB => ?_ | refine W_regionI ?_ | show O _ _ _ _ _ _ _ _ | show OK _ _ _ _ _ _ _ _ _ | show OKF _ _ _ _ _ _ _ _ _ _ | show OKT _ _ _ _ _ _ _ _ _ _ _ _ | show _ ∧ _ | show CG _ _ _ | show CB _ _ _); simp (disch := first | ((with_reducible show isStop _ = false); rfl) | ((with_reducible show isP _ = true); rfl) | ((with_reducible show (isStop _ || isP _) = false); rfl) | assumption | (simp only [GSB, Nat.reduceEqDiff, reduceIte]; done) | omega | (with_reducible decide) | (simp only [DSB, Go.Proofs.YtdmbgbennlnpcaaDoorAbs.oneC, Go.Proofs.YtdmbgbennlnpcaaDoorAbs.St.next_withLow, Nat.reduceAdd, Nat.reduceLeDiff] <;> omega) | fail) only [↓DN, ↓reduceIte, UP, CGB, Int.reduceEq, Int.reduceLT, Int.reduceLE, Nat.reduceEqDiff, Nat.reduceAdd, Nat.reduceMul, Nat.reduceSub, Int.reduceToNat, Nat.reduceLeDiff, PF, isStop, isP, goInt, beq_self_eq_true, decide_true, decide_false, Int.toNat_natCast, Int.natCast_zero])
    | ((with_reducible refine CB_intro (fun ht => hcA ?_) (fun ht => hcB ?_)) <;> (first | (simp only [Bool.true_eq_false, Bool.false_eq_true] at ht; done) | ((try simp only [Bool.not_eq_true', Bool.not_eq_false'] at ht); (try simp only [ht]); (try simp only [HTN] at ht); (try (exfalso; omega)))))
    | ((with_reducible refine W_regionI ?_); simp only [List.append_eq, List.cons_append, List.nil_append])
    | (with_reducible refine O_splitG fun cA cB hcA hcB => ?_))
  refine W_loop (fun z e S1 => ∃ (i : Nat) (ov : Value), e.get 0 = .slice a l.length k ∧ e.get 1 = .string name ∧ e.get 5 = ov ∧ e.get 6 = .int .i64 i ∧ i ≤ l.length ∧ z = l.length - i ∧ Gr 50 2 S S1 ov (delF (l.take i) name).length (fldv (delF (l.take i) name))) l.length ⟨0, _, by simp only [EVB, Nat.reduceEqDiff, reduceIte], by simp only [EVB, Nat.reduceEqDiff, reduceIte], by simp only [EVB, Nat.reduceEqDiff, reduceIte], by simp only [EVB, Nat.reduceEqDiff, reduceIte]; rfl, Nat.zero_le _, by simp, Gr.nil 50 2 S⟩ ?_
  rintro z e S1 ⟨i, ov, e0, e1, e5, e6, hi, hz, hG⟩
  have wi : IntKind.i64.wrap ((i : Int) + 1) = ((i + 1 : Nat) : Int) := by rw [Go.Proofs.YtdmbgbennlnpcaaDoorAbs.wp64 (by omega) (by omega)]; omega
  by_cases hlt : i < l.length
  · have hd : decide ((i : Int) < (l.length : Int)) = true := decide_eq_true (by omega)
    obtain ⟨b, L, ea, hr0, hbn⟩ := hrow i hlt
    subst ea
    rw [← hG.kp.kept.2 b hbn (by simp)] at hr0
    obtain ⟨hr1, hr2⟩ := row2 hr0
    have hfs := hsz l[i] (List.getElem_mem hlt)
    have hst := del_step (name := name) hlt
    have hbn1 : b < S1.next := Nat.lt_of_lt_of_le hbn hG.kp.1
    have hdl : (delF (l.take i) name).length ≤ l.length := Nat.le_trans (List.length_filter_le _ _) (by simp; omega)
    generalize hf : l[i] = f at *
    repeat' (first
    | (with_reducible first | refine W_pushC fun K hK => ?_ | refine W_blockI ?_ | refine W_scopeI ?_ | refine W_labelI ?_ | refine W_skipI ?_ | refine W_retI ?_ | refine W_exitI ?_ | refine then_normalI ?_ | refine then_retI ?_ | refine then_exitI ?_ | refine inBlock_normalI ?_ | refine inBlock_retI ?_ | refine inBlock_exitI ?_ | refine inBlock_exitN (by decide) ?_)
    | ((with_reducible first | refine bodyQ_normal0 ?_ | refine bodyQ_normal1 ?_ | refine bodyQ_normal2 ?_ | refine bodyQ_normal3 ?_ | refine bodyQ_normal4 ?_ | refine bodyQ_ret0 ?_ | refine bodyQ_ret1 ?_ | refine bodyQ_ret2 ?_ | refine bodyQ_ret3 ?_ | refine bodyQ_ret4 ?_); (try simp only [EVB, Nat.reduceEqDiff, reduceIte]))
    | (with_reducible refine Cont.use (by assumption) ?_)
    | (with_reducible first | refine hcA ?_ | refine hcB ?_)
    | ((with_reducible first | refine W_condG fun cA cB hcA hcB => ?_ | refine W_regionI ?_ | show O _ _ _ _ _ _ _ _ | show OK _ _ _ _ _ _ _ _ _ | show OKF _ _ _ _ _ _ _ _ _ _ | show OKT _ _ _ _ _ _ _ _ _ _ _ _ | show _ ∧ _ | show CG _ _ _ | show CB _ _ _); simp (disch := first | ((with_reducible show isStop _ = false); rfl) | ((with_reducible show isP _ = true); rfl) | ((with_reducible show (isStop _ || isP _) = false); rfl) | assumption | (simp only [GSB, Nat.reduceEqDiff, reduceIte]; done) | omega | (with_reducible decide) | (simp only [DSB, Go.Proofs.YtdmbgbennlnpcaaDoorAbs.oneC, Go.Proofs.YtdmbgbennlnpcaaDoorAbs.St.next_withLow, Nat.reduceAdd, Nat.reduceLeDiff] <;> omega) | fail) only [↓DN, ↓reduceIte, UP, CGB, Int.reduceEq, Int.reduceLT, Int.reduceLE, Nat.reduceEqDiff, Nat.reduceAdd, Nat.reduceMul, Nat.reduceSub, Int.reduceToNat, Nat.reduceLeDiff, PF, isStop, isP, goInt, beq_self_eq_true, decide_true, decide_false, Int.toNat_natCast, Int.natCast_zero, hd, e0, e1, e5, e6, wi, hr1])
    | ((with_reducible refine CB_intro (fun ht => hcA ?_) (fun ht => hcB ?_)) <;> (first | (simp only [Bool.true_eq_false, Bool.false_eq_true] at ht; done) | ((try simp only [Bool.not_eq_true', Bool.not_eq_false'] at ht); (try simp only [ht]); (try simp only [HTN] at ht); (try (exfalso; omega)))))
    | ((with_reducible refine W_regionI ?_); simp only [List.append_eq, List.cons_append, List.nil_append])
    | (with_reducible refine O_splitG fun cA cB hcA hcB => ?_))
    refine RSame_L h (by omega) (by omega) fun S2 k2 => ?_
    have hr02 : Go.Proofs.YtdmbgbennlnpcaaDoorAbs.rowAt (S2.get b) (i * 2) 2 L = some (.agg #[.string f.1, .string f.2]) := by rw [k2.kept.2 b hbn1 (by simp)]; exact hr0
    have hG2 := hG.keep k2
    by_cases hs : isN name f = true
    · have hs' : sameB f.1 name = true := hs
      rw [hs']
      rw [if_pos hs, List.append_nil] at hst
      repeat' (first
    | (with_reducible first | refine W_pushC fun K hK => ?_ | refine W_blockI ?_ | refine W_scopeI ?_ | refine W_labelI ?_ | refine W_skipI ?_ | refine W_retI ?_ | refine W_exitI ?_ | refine then_normalI ?_ | refine then_retI ?_ | refine then_exitI ?_ | refine inBlock_normalI ?_ | refine inBlock_retI ?_ | refine inBlock_exitI ?_ | refine inBlock_exitN (by decide) ?_)
    | ((with_reducible first | refine bodyQ_normal0 ?_ | refine bodyQ_normal1 ?_ | refine bodyQ_normal2 ?_ | refine bodyQ_normal3 ?_ | refine bodyQ_normal4 ?_ | refine bodyQ_ret0 ?_ | refine bodyQ_ret1 ?_ | refine bodyQ_ret2 ?_ | refine bodyQ_ret3 ?_ | refine bodyQ_ret4 ?_); (try simp only [EVB, Nat.reduceEqDiff, reduceIte]))
    | (with_reducible refine Cont.use (by assumption) ?_)
    | (with_reducible first | refine hcA ?_ | refine hcB ?_)
    | ((with_reducible first | refine W_condG fun cA cB hcA hcB => ?_ | refine W_regionI ?_ | show O _ _ _ _ _ _ _ _ | show OK _ _ _ _ _ _ _ _ _ | show OKF _ _ _ _ _ _ _ _ _ _ | show OKT _ _ _ _ _ _ _ _ _ _ _ _ | show _ ∧ _ | show CG _ _ _ | show CB _ _ _); simp (disch := first | ((with_reducible show isStop _ = false); rfl) | ((with_reducible show isP _ = true); rfl) | ((with_reducible show (isStop _ || isP _) = false); rfl) | assumption | (simp only [GSB, Nat.reduceEqDiff, reduceIte]; done) | omega | (with_reducible decide) | (simp only [DSB, Go.Proofs.YtdmbgbennlnpcaaDoorAbs.oneC, Go.Proofs.YtdmbgbennlnpcaaDoorAbs.St.next_withLow, Nat.reduceAdd, Nat.reduceLeDiff] <;> omega) | fail) only [↓DN, ↓reduceIte, UP, CGB, Int.reduceEq, Int.reduceLT, Int.reduceLE, Nat.reduceEqDiff, Nat.reduceAdd, Nat.reduceMul, Nat.reduceSub, Int.reduceToNat, Nat.reduceLeDiff, PF, isStop, isP, goInt, beq_self_eq_true, decide_true, decide_false, Int.toNat_natCast, Int.natCast_zero, e0, e1, e5, e6, wi])
    | ((with_reducible refine CB_intro (fun ht => hcA ?_) (fun ht => hcB ?_)) <;> (first | (simp only [Bool.true_eq_false, Bool.false_eq_true] at ht; done) | ((try simp only [Bool.not_eq_true', Bool.not_eq_false'] at ht); (try simp only [ht]); (try simp only [HTN] at ht); (try (exfalso; omega)))))
    | ((with_reducible refine W_regionI ?_); simp only [List.append_eq, List.cons_append, List.nil_append])
    | (with_reducible refine O_splitG fun cA cB hcA hcB => ?_)
    | ((refine ⟨_, ?_, i + 1, ov, by simp only [EVB, Nat.reduceEqDiff, reduceIte, e0], by simp only [EVB, Nat.reduceEqDiff, reduceIte, e1], by simp only [EVB, Nat.reduceEqDiff, reduceIte, e5], by simp only [EVB, Nat.reduceEqDiff, reduceIte], by omega, rfl, by rw [hst]; exact hG2⟩; omega)))
    · have hs : isN name f = false := by simpa using hs
      have hs' : sameB f.1 name = false := hs
      rw [hs']
      rw [hs, if_neg (by decide)] at hst
      repeat' (first
    | (with_reducible first | refine W_pushC fun K hK => ?_ | refine W_blockI ?_ | refine W_scopeI ?_ | refine W_labelI ?_ | refine W_skipI ?_ | refine W_retI ?_ | refine W_exitI ?_ | refine then_normalI ?_ | refine then_retI ?_ | refine then_exitI ?_ | refine inBlock_normalI ?_ | refine inBlock_retI ?_ | refine inBlock_exitI ?_ | refine inBlock_exitN (by decide) ?_)
    | ((with_reducible first | refine bodyQ_normal0 ?_ | refine bodyQ_normal1 ?_ | refine bodyQ_normal2 ?_ | refine bodyQ_normal3 ?_ | refine bodyQ_normal4 ?_ | refine bodyQ_ret0 ?_ | refine bodyQ_ret1 ?_ | refine bodyQ_ret2 ?_ | refine bodyQ_ret3 ?_ | refine bodyQ_ret4 ?_); (try simp only [EVB, Nat.reduceEqDiff, reduceIte]))
    | (with_reducible refine Cont.use (by assumption) ?_)
    | (with_reducible first | refine hcA ?_ | refine hcB ?_)
    | ((with_reducible first | refine W_condG fun cA cB hcA hcB => ?_ | refine W_regionI ?_ | show O _ _ _ _ _ _ _ _ | show OK _ _ _ _ _ _ _ _ _ | show OKF _ _ _ _ _ _ _ _ _ _ | show OKT _ _ _ _ _ _ _ _ _ _ _ _ | show _ ∧ _ | show CG _ _ _ | show CB _ _ _); simp (disch := first | ((with_reducible show isStop _ = false); rfl) | ((with_reducible show isP _ = true); rfl) | ((with_reducible show (isStop _ || isP _) = false); rfl) | assumption | (simp only [GSB, Nat.reduceEqDiff, reduceIte]; done) | omega | (with_reducible decide) | (simp only [DSB, Go.Proofs.YtdmbgbennlnpcaaDoorAbs.oneC, Go.Proofs.YtdmbgbennlnpcaaDoorAbs.St.next_withLow, Nat.reduceAdd, Nat.reduceLeDiff] <;> omega) | fail) only [↓DN, ↓reduceIte, UP, CGB, Int.reduceEq, Int.reduceLT, Int.reduceLE, Nat.reduceEqDiff, Nat.reduceAdd, Nat.reduceMul, Nat.reduceSub, Int.reduceToNat, Nat.reduceLeDiff, PF, isStop, isP, goInt, beq_self_eq_true, decide_true, decide_false, Int.toNat_natCast, Int.natCast_zero, e0, e1, e5, e6, wi, hr02])
    | ((with_reducible refine CB_intro (fun ht => hcA ?_) (fun ht => hcB ?_)) <;> (first | (simp only [Bool.true_eq_false, Bool.false_eq_true] at ht; done) | ((try simp only [Bool.not_eq_true', Bool.not_eq_false'] at ht); (try simp only [ht]); (try simp only [HTN] at ht); (try (exfalso; omega)))))
    | ((with_reducible refine W_regionI ?_); simp only [List.append_eq, List.cons_append, List.nil_append])
    | (with_reducible refine O_splitG fun cA cB hcA hcB => ?_))
      refine O_addC (S0 := S) (n := f.1) (v := f.2) (l := delF (l.take i) name) (by simp only [EVB, Nat.reduceEqDiff, reduceIte, e5]; exact .inl hG2) (by simp only [EVB, Nat.reduceEqDiff, reduceIte]) (by omega) fun v' S' hG' => ?_
      repeat' (first
    | (with_reducible first | refine W_pushC fun K hK => ?_ | refine W_blockI ?_ | refine W_scopeI ?_ | refine W_labelI ?_ | refine W_skipI ?_ | refine W_retI ?_ | refine W_exitI ?_ | refine then_normalI ?_ | refine then_retI ?_ | refine then_exitI ?_ | refine inBlock_normalI ?_ | refine inBlock_retI ?_ | refine inBlock_exitI ?_ | refine inBlock_exitN (by decide) ?_)
    | ((with_reducible first | refine bodyQ_normal0 ?_ | refine bodyQ_normal1 ?_ | refine bodyQ_normal2 ?_ | refine bodyQ_normal3 ?_ | refine bodyQ_normal4 ?_ | refine bodyQ_ret0 ?_ | refine bodyQ_ret1 ?_ | refine bodyQ_ret2 ?_ | refine bodyQ_ret3 ?_ | refine bodyQ_ret4 ?_); (try simp only [EVB, Nat.reduceEqDiff, reduceIte]))
    | (with_reducible refine Cont.use (by assumption) ?_)
    | (with_reducible first | refine hcA ?_ | refine hcB ?_)
    | ((with_reducible first | refine W_condG fun cA cB hcA hcB => ?_ | refine W_regionI ?_ | show O _ _ _ _ _ _ _ _ | show OK _ _ _ _ _ _ _ _ _ | show OKF _ _ _ _ _ _ _ _ _ _ | show OKT _ _ _ _ _ _ _ _ _ _ _ _ | show _ ∧ _ | show CG _ _ _ | show CB _ _ _); simp (disch := first | ((with_reducible show isStop _ = false); rfl) | ((with_reducible show isP _ = true); rfl) | ((with_reducible show (isStop _ || isP _) = false); rfl) | assumption | (simp only [GSB, Nat.reduceEqDiff, reduceIte]; done) | omega | (with_reducible decide) | (simp only [DSB, Go.Proofs.YtdmbgbennlnpcaaDoorAbs.oneC, Go.Proofs.YtdmbgbennlnpcaaDoorAbs.St.next_withLow, Nat.reduceAdd, Nat.reduceLeDiff] <;> omega) | fail) only [↓DN, ↓reduceIte, UP, CGB, Int.reduceEq, Int.reduceLT, Int.reduceLE, Nat.reduceEqDiff, Nat.reduceAdd, Nat.reduceMul, Nat.reduceSub, Int.reduceToNat, Nat.reduceLeDiff, PF, isStop, isP, goInt, beq_self_eq_true, decide_true, decide_false, Int.toNat_natCast, Int.natCast_zero, e0, e1, e6, wi])
    | ((with_reducible refine CB_intro (fun ht => hcA ?_) (fun ht => hcB ?_)) <;> (first | (simp only [Bool.true_eq_false, Bool.false_eq_true] at ht; done) | ((try simp only [Bool.not_eq_true', Bool.not_eq_false'] at ht); (try simp only [ht]); (try simp only [HTN] at ht); (try (exfalso; omega)))))
    | ((with_reducible refine W_regionI ?_); simp only [List.append_eq, List.cons_append, List.nil_append])
    | (with_reducible refine O_splitG fun cA cB hcA hcB => ?_)
    | ((refine ⟨_, ?_, i + 1, v', by simp only [EVB, Nat.reduceEqDiff, reduceIte, e0], by simp only [EVB, Nat.reduceEqDiff, reduceIte, e1], by simp only [EVB, Nat.reduceEqDiff, reduceIte], by simp only [EVB, Nat.reduceEqDiff, reduceIte, wi], by omega, rfl, by rw [hst]; exact hG'⟩; omega)))
  · have hd : decide ((i : Int) < (l.length : Int)) = false := decide_eq_false (by omega)
    rw [List.take_of_length_le (show l.length ≤ i by omega)] at hG
    repeat' (first
    | (with_reducible first | refine W_pushC fun K hK => ?_ | refine W_blockI ?_ | refine W_scopeI ?_ | refine W_labelI ?_ | refine W_skipI ?_ | refine W_retI ?_ | refine W_exitI ?_ | refine then_normalI ?_ | refine then_retI ?_ | refine then_exitI ?_ | refine inBlock_normalI ?_ | refine inBlock_retI ?_ | refine inBlock_exitI ?_ | refine inBlock_exitN (by decide) ?_)
    | ((with_reducible first | refine bodyQ_normal0 ?_ | refine bodyQ_normal1 ?_ | refine bodyQ_normal2 ?_ | refine bodyQ_normal3 ?_ | refine bodyQ_normal4 ?_ | refine bodyQ_ret0 ?_ | refine bodyQ_ret1 ?_ | refine bodyQ_ret2 ?_ | refine bodyQ_ret3 ?_ | refine bodyQ_ret4 ?_); (try simp only [EVB, Nat.reduceEqDiff, reduceIte]))
    | (with_reducible refine Cont.use (by assumption) ?_)
    | (with_reducible first | refine hcA ?_ | refine hcB ?_)
    | ((with_reducible first | refine W_condG fun cA cB hcA hcB => ?_ | refine W_regionI ?_ | show O _ _ _ _ _ _ _ _ | show OK _ _ _ _ _ _ _ _ _ | show OKF _ _ _ _ _ _ _ _ _ _ | show OKT _ _ _ _ _ _ _ _ _ _ _ _ | show _ ∧ _ | show CG _ _ _ | show CB _ _ _); simp (disch := first | ((with_reducible show isStop _ = false); rfl) | ((with_reducible show isP _ = true); rfl) | ((with_reducible show (isStop _ || isP _) = false); rfl) | assumption | (simp only [GSB, Nat.reduceEqDiff, reduceIte]; done) | omega | (with_reducible decide) | (simp only [DSB, Go.Proofs.YtdmbgbennlnpcaaDoorAbs.oneC, Go.Proofs.YtdmbgbennlnpcaaDoorAbs.St.next_withLow, Nat.reduceAdd, Nat.reduceLeDiff] <;> omega) | fail) only [↓DN, ↓reduceIte, UP, CGB, Int.reduceEq, Int.reduceLT, Int.reduceLE, Nat.reduceEqDiff, Nat.reduceAdd, Nat.reduceMul, Nat.reduceSub, Int.reduceToNat, Nat.reduceLeDiff, PF, isStop, isP, goInt, beq_self_eq_true, decide_true, decide_false, Int.toNat_natCast, Int.natCast_zero, hd, e0, e1, e5, e6])
    | ((with_reducible refine CB_intro (fun ht => hcA ?_) (fun ht => hcB ?_)) <;> (first | (simp only [Bool.true_eq_false, Bool.false_eq_true] at ht; done) | ((try simp only [Bool.not_eq_true', Bool.not_eq_false'] at ht); (try simp only [ht]); (try simp only [HTN] at ht); (try (exfalso; omega)))))
    | ((with_reducible refine W_regionI ?_); simp only [List.append_eq, List.cons_append, List.nil_append])
    | (with_reducible refine O_splitG fun cA cB hcA hcB => ?_)
    | (exact hQ _ _ hG))
end
end Go.Proofs.YtdmbgbennlnpcaaDoor.Q
