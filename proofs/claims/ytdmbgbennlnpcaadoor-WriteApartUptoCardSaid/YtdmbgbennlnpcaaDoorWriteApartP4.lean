/- What the law WriteApart needs, part 4: the runner over a plain memory, words, the functions that it reaches, each by its own contract; for the inputs that each theorem names. -/
import Derived.Test.YtdmbgbennlnpcaaDoorWriteApartP3
import Derived.Test.YtdmbgbennlnpcaaDoorWriteApartQ0
import Derived.Lib.LaidU8
import Derived.MakeChecks
import Derived.LaidHandle
namespace Go.Proofs.YtdmbgbennlnpcaaDoor.Q
open Go Go.Proofs.YtdmbgbennlnpcaaDoorAbs Go.Proofs Go.RowKit Go.Proofs.YtdmbgbennlnpcaaDoorW.PrintWords
set_option linter.unusedVariables false
set_option linter.unusedSimpArgs false
abbrev PowIs (w : World) : Prop := Lib.TabIs Tryd.prog w "internal/strconv.uint64pow10" .u64 Lib.pow10Tab
theorem startP {w : World} (hT : PowIs w) (hG : 6 < w.heap.size) : Go.Proofs.YtdmbgbennlnpcaaDoorAbs.Start Tryd.prog (Ren.start 6) (St.start 6 glP whP) w := by
  have hg : Tryd.prog.globalNamed "internal/strconv.uint64pow10" = some 1 := by kernel_rfl
  have hb : ∃ ty fr, w.heap[1]? = some (.cells (Lib.pow10Tab.map (Value.int .u64)).toArray ty fr) := by
    unfold PowIs Lib.TabIs World.var? at hT
    rw [hg, Option.bind_some] at hT
    split at hT
    · rename_i cs a b e
      cases hT
      exact ⟨a, b, e⟩
    · cases hT
  have st0 : Go.Proofs.YtdmbgbennlnpcaaDoorAbs.Start Tryd.prog (Ren.start Tryd.prog.globals.size) (St.start Tryd.prog.globals.size glP whP) w := by
    refine start0w glP whP (by rw [nglob]; exact hG) (fun g cs hg hgl j v hj => ?_) (fun g cs hg hgl hw => ?_)
    · unfold glP at hgl
      split at hgl
      · cases hgl
        obtain ⟨ty, fr, e⟩ := hb
        refine ⟨v, ?_, .leaf _ ?_⟩
        · simp only [World.cell?, e]
          rw [List.getElem?_toArray]
          exact hj
        · have : (Lib.pow10Tab.map (Value.int .u64)).all leaf = true := by decide
          rw [List.all_eq_true] at this
          exact this v (List.mem_of_getElem? hj)
      · cases hgl
    · unfold glP at hgl
      split at hgl
      · cases hgl; exact hb
      · cases hgl
  rwa [nglob] at st0
def toF (l : List S50) : List Fld := l.map fun x => (x.f0, x.f1)
theorem toF_len (l : List S50) : (toF l).length = l.length := by simp [toF]
theorem fldv_in : ∀ (l : List S50) (j : Nat) (v : Value), (fldv (toF l))[j]? = some v → ∃ p, l[j / 2]? = some p ∧ [Value.string p.f0, Value.string p.f1][j % 2]? = some v
  | [], j, v, h => by simp [fldv, toF] at h
  | x :: l, 0, v, h => ⟨x, rfl, h⟩
  | x :: l, 1, v, h => ⟨x, rfl, h⟩
  | x :: l, j + 2, v, h => by
    have h' : (fldv (toF l))[j]? = some v := h
    obtain ⟨p, h1, h2⟩ := fldv_in l j v h'
    refine ⟨p, ?_, by rw [Nat.add_mod_right]; exact h2⟩
    rw [show (j + 2) / 2 = j / 2 + 1 by omega]
    simpa using h1
theorem row_fld {w : World} {ρ : Ren} {A : Option Addr} {l : List S50} (h : Kd.C k50 w A l.length l) (hp : 0 < l.length) : ∃ ad, A = some ad ∧ ∀ (j : Nat) (v : Value), (fldv (toF l))[j]? = some v → ∃ v', w.cell? (ad.add j) = some v' ∧ VR ρ v v' := by
  obtain ⟨ad, e, hcell⟩ := h.2.2 hp
  refine ⟨ad, e, fun j v hj => ?_⟩
  obtain ⟨p, h1, h2⟩ := fldv_in l j v hj
  obtain ⟨c, _, hK, hc⟩ := hcell (j / 2) p h1
  have ec := k50_open hK
  subst ec
  refine ⟨v, ?_, .leaf _ ?_⟩
  · have := hc (j % 2) v h2
    rwa [show j / 2 * k50.sz + j % 2 = j from Nat.div_add_mod' j 2] at this
  · rcases Nat.mod_two_eq_zero_or_one j with q | q <;> (rw [q] at h2; cases h2; rfl)
theorem fldv_nil (l : List S50) : l.length = 0 ↔ fldv (toF l) = [] := by
  cases l with
  | nil => simp [fldv, toF]
  | cons x l => simp [fldv, toF]
def FOk (l : List S50) : Prop := l.length ≤ 1048576 ∧ ∀ f ∈ toF l, f.1.size ≤ 1048576 ∧ f.2.size ≤ 1048576
theorem their_sf {S : St} {l : List S50} {n : Nat} (hn : n = S.next) : SF (S.theirs (fldv (toF l))) (.slice (some ⟨n, 0, some 0⟩) l.length (UNK + 2)) (toF l) :=
  .inl ⟨n, by rw [toF_len], by subst hn; simp [St.theirs], by subst hn; exact Nat.lt_succ_self _⟩
theorem their_kept (S : St) (cs : List Value) : Kept S (S.theirs cs) none := ⟨Nat.le_succ _, fun i hi _ => by simp only [St.theirs]; rw [if_neg (by omega)]⟩
theorem start_pg : PG (St.start 6 glP whP) := ⟨by decide, rfl⟩
theorem turnstilelaw10_WriteApart.calls (m t : ByteArray) (n : Int) (A0 : Option Addr) (c0 : Nat) (l0 : List S50) (m' t' : ByteArray) (n' : Int) (A1 : Option Addr) (c1 : Nat) (l1 : List S50) (w : World) (hr0 : Kd.C k50 w A0 l0.length l0) (hc0 : l0.length ≤ c0) (hr1 : Kd.C k50 w A1 l1.length l1) (hc1 : l1.length ≤ c1)
    (hT : PowIs w) (hG : 6 < w.heap.size) (hp : (m.size ≤ 1048576 ∧ t.size ≤ 1048576 ∧ FOk l0) ∧ (m'.size ≤ 1048576 ∧ t'.size ≤ 1048576 ∧ FOk l1)) :
    Calls Tryd.prog 4 #[.agg #[.string m, .string t, .int .i64 n, .slice A0 l0.length c0], .agg #[.string m', .string t', .int .i64 n', .slice A1 l1.length c1]] w fun e w' => e = .returned (.bool true) ∧ Below w.heap.size w w' := by
  have st0 := startP hT hG
  obtain ⟨ρ1, hle1, st1, hv1⟩ := st0.row 2 (fldv (toF l0)) A0 l0.length c0 hc0 (fldv_nil l0) (row_fld hr0)
  obtain ⟨ρ2, hle2, st2, hv2⟩ := st1.row 2 (fldv (toF l1)) A1 l1.length c1 hc1 (fldv_nil l1) (row_fld hr1)
  obtain ⟨⟨p1, p2, p3, p4⟩, p5, p6, p7, p8⟩ := hp
  have k1 := their_kept (St.start 6 glP whP) (fldv (toF l0))
  have k2 := their_kept ((St.start 6 glP whP).theirs (fldv (toF l0))) (fldv (toF l1))
  refine st2.law prims1_sim mixed rfl (xs := #[.agg #[.string m, .string t, .int .i64 n, .slice (some ⟨7, 0, some 0⟩) l0.length (UNK + 2)], .agg #[.string m', .string t', .int .i64 n', .slice (some ⟨8, 0, some 0⟩) l1.length (UNK + 2)]])
    (VRL.cons (VR.agg' (VRL.cons (VR.scalar rfl) (VRL.cons (VR.scalar rfl) (VRL.cons (VR.scalar rfl) (VRL.cons (hv1.mono hle2) (VRL.nil _)))))) (VRL.cons (VR.agg' (VRL.cons (VR.scalar rfl) (VRL.cons (VR.scalar rfl) (VRL.cons (VR.scalar rfl) (VRL.cons hv2 (VRL.nil _)))))) (VRL.nil _))) ?_
  refine apart_walk prims1_ok ((start_pg.kept k1).kept k2) (l := toF l0) (l' := toF l1) ((their_sf rfl).kept k2) p1 p2 (by rw [toF_len]; exact p3) p4 (their_sf rfl) p5 p6 (by rw [toF_len]; exact p7) p8 ?_
  intro S'; rfl
end Go.Proofs.YtdmbgbennlnpcaaDoor.Q
