/- What the law WriteBack needs, part 4: the runner over a plain memory, words, the functions that it reaches, each by its own contract; for the inputs that each theorem names. -/
import Derived.Test.YtdmbgbennlnpcaaDoorWriteBackP3
import Derived.Test.YtdmbgbennlnpcaaDoorWriteBackQ0
import Derived.Lib.LaidU8
import Derived.MakeChecks
import Derived.LaidHandle
import Derived.Test.YtdmbgbennlnpcaaDoorWriteBackP2
import Derived.Test.YtdmbgbennlnpcaaDoorProg
import Derived.Below
import Derived.Deep.Draws
import Derived.Deep.AppendLies
import Derived.Maps.AppendAt
import Derived.OwnWalk
import Derived.Laws.BytesArg
import Derived.Laws.MakeOwn
import Derived.Laws.OwnMore
import Derived.Deep.OwnRows
import Derived.Tactics
import Derived.Lib.ConvBytes
import Derived.Laws.Slices
import Derived.WalkKit
import Derived.KernelRfl
import Derived.RowKit3
import Derived.Deep.LoopGhost
import Derived.Deep.QuietTactic
import Derived.BigQuiet
import Derived.WideLaws
import Derived.Deep.DeepCutAuto
import Derived.Deep.CutBlock
import Derived.Deep.RegionHeld3
import Derived.Laws.Rows
import Derived.Lib.AppendStr
import Derived.ArgAppend
import Derived.Laws.IdiomCopy
import Derived.OrdersHeld
import Derived.Laws.BitsLemmas
import Derived.RowKit
import Derived.Shelf.Strings.SlTrimAscii
import Derived.Deep.RegionLaw
import Derived.Deep.DrawnRows
import Derived.StillTactics
namespace Go.Proofs.YtdmbgbennlnpcaaDoor.Q
open Go Go.Proofs.YtdmbgbennlnpcaaDoorAbs Go.Proofs Go.RowKit Go.Proofs.YtdmbgbennlnpcaaDoorW.PrintWords
set_option linter.unusedVariables false
set_option linter.unusedSimpArgs false
abbrev PowIs (w : World) : Prop := Lib.TabIs Tryd.prog w "internal/strconv.uint64pow10" .u64 Lib.pow10Tab
theorem startP {w : World} (hT : PowIs w) (hG : 6 < w.heap.size) : Go.Proofs.YtdmbgbennlnpcaaDoorAbs.Start Tryd.prog (Ren.start 6) (St.start 6 glP whP) w := by
  have hg : Tryd.prog.globalNamed "internal/strconv.uint64pow10" = some 1 := by kernel_rfl
  have hb : ∃ ty fr, w.heap[1]? = some (.cells (Lib.pow10Tab.map (Value.int .u64)).toArray ty fr) := by
    unfold PowIs Lib.TabIs World.var? at hT
    rw [hg, Option.bind_some] at hT
    split at hT
    · rename_i cs a b e
      cases hT
      exact ⟨a, b, e⟩
    · cases hT
  have st0 : Go.Proofs.YtdmbgbennlnpcaaDoorAbs.Start Tryd.prog (Ren.start Tryd.prog.globals.size) (St.start Tryd.prog.globals.size glP whP) w := by
    refine start0w glP whP (by rw [nglob]; exact hG) (fun g cs hg hgl j v hj => ?_) (fun g cs hg hgl hw => ?_)
    · unfold glP at hgl
      split at hgl
      · cases hgl
        obtain ⟨ty, fr, e⟩ := hb
        refine ⟨v, ?_, .leaf _ ?_⟩
        · simp only [World.cell?, e]
          rw [List.getElem?_toArray]
          exact hj
        · have : (Lib.pow10Tab.map (Value.int .u64)).all leaf = true := by decide
          rw [List.all_eq_true] at this
          exact this v (List.mem_of_getElem? hj)
      · cases hgl
    · unfold glP at hgl
      split at hgl
      · cases hgl; exact hb
      · cases hgl
  rwa [nglob] at st0
def toF (l : List S50) : List Fld := l.map fun x => (x.f0, x.f1)
theorem toF_len (l : List S50) : (toF l).length = l.length := by simp [toF]
theorem fldv_in : ∀ (l : List S50) (j : Nat) (v : Value), (fldv (toF l))[j]? = some v → ∃ p, l[j / 2]? = some p ∧ [Value.string p.f0, Value.string p.f1][j % 2]? = some v
  | [], j, v, h => by simp [fldv, toF] at h
  | x :: l, 0, v, h => ⟨x, rfl, h⟩
  | x :: l, 1, v, h => ⟨x, rfl, h⟩
  | x :: l, j + 2, v, h => by
    have h' : (fldv (toF l))[j]? = some v := h
    obtain ⟨p, h1, h2⟩ := fldv_in l j v h'
    refine ⟨p, ?_, by rw [Nat.add_mod_right]; exact h2⟩
    rw [show (j + 2) / 2 = j / 2 + 1 by omega]
    simpa using h1
theorem row_fld {w : World} {ρ : Ren} {A : Option Addr} {l : List S50} (h : Kd.C k50 w A l.length l) (hp : 0 < l.length) : ∃ ad, A = some ad ∧ ∀ (j : Nat) (v : Value), (fldv (toF l))[j]? = some v → ∃ v', w.cell? (ad.add j) = some v' ∧ VR ρ v v' := by
  obtain ⟨ad, e, hcell⟩ := h.2.2 hp
  refine ⟨ad, e, fun j v hj => ?_⟩
  obtain ⟨p, h1, h2⟩ := fldv_in l j v hj
  obtain ⟨c, _, hK, hc⟩ := hcell (j / 2) p h1
  have ec := k50_open hK
  subst ec
  refine ⟨v, ?_, .leaf _ ?_⟩
  · have := hc (j % 2) v h2
    rwa [show j / 2 * k50.sz + j % 2 = j from Nat.div_add_mod' j 2] at this
  · rcases Nat.mod_two_eq_zero_or_one j with q | q <;> (rw [q] at h2; cases h2; rfl)
theorem fldv_nil (l : List S50) : l.length = 0 ↔ fldv (toF l) = [] := by
  cases l with
  | nil => simp [fldv, toF]
  | cons x l => simp [fldv, toF]
def FOk (l : List S50) : Prop := l.length ≤ 1048576 ∧ ∀ f ∈ toF l, f.1.size ≤ 1048576 ∧ f.2.size ≤ 1048576
theorem their_sf {S : St} {l : List S50} {n : Nat} (hn : n = S.next) : SF (S.theirs (fldv (toF l))) (.slice (some ⟨n, 0, some 0⟩) l.length (UNK + 2)) (toF l) :=
  .inl ⟨n, by rw [toF_len], by subst hn; simp [St.theirs], by subst hn; exact Nat.lt_succ_self _⟩
theorem their_kept (S : St) (cs : List Value) : Kept S (S.theirs cs) none := ⟨Nat.le_succ _, fun i hi _ => by simp only [St.theirs]; rw [if_neg (by omega)]⟩
theorem start_pg : PG (St.start 6 glP whP) := ⟨by decide, rfl⟩
theorem turnstilelaw10_WriteApart.calls (m t : ByteArray) (n : Int) (A0 : Option Addr) (c0 : Nat) (l0 : List S50) (m' t' : ByteArray) (n' : Int) (A1 : Option Addr) (c1 : Nat) (l1 : List S50) (w : World) (hr0 : Kd.C k50 w A0 l0.length l0) (hc0 : l0.length ≤ c0) (hr1 : Kd.C k50 w A1 l1.length l1) (hc1 : l1.length ≤ c1)
    (hT : PowIs w) (hG : 6 < w.heap.size) (hp : (m.size ≤ 1048576 ∧ t.size ≤ 1048576 ∧ FOk l0) ∧ (m'.size ≤ 1048576 ∧ t'.size ≤ 1048576 ∧ FOk l1)) :
    Calls Tryd.prog 4 #[.agg #[.string m, .string t, .int .i64 n, .slice A0 l0.length c0], .agg #[.string m', .string t', .int .i64 n', .slice A1 l1.length c1]] w fun e w' => e = .returned (.bool true) ∧ Below w.heap.size w w' := by
  have st0 := startP hT hG
  obtain ⟨ρ1, hle1, st1, hv1⟩ := st0.row 2 (fldv (toF l0)) A0 l0.length c0 hc0 (fldv_nil l0) (row_fld hr0)
  obtain ⟨ρ2, hle2, st2, hv2⟩ := st1.row 2 (fldv (toF l1)) A1 l1.length c1 hc1 (fldv_nil l1) (row_fld hr1)
  obtain ⟨⟨p1, p2, p3, p4⟩, p5, p6, p7, p8⟩ := hp
  have k1 := their_kept (St.start 6 glP whP) (fldv (toF l0))
  have k2 := their_kept ((St.start 6 glP whP).theirs (fldv (toF l0))) (fldv (toF l1))
  refine st2.law prims1_sim mixed rfl (xs := #[.agg #[.string m, .string t, .int .i64 n, .slice (some ⟨7, 0, some 0⟩) l0.length (UNK + 2)], .agg #[.string m', .string t', .int .i64 n', .slice (some ⟨8, 0, some 0⟩) l1.length (UNK + 2)]])
    (VRL.cons (VR.agg' (VRL.cons (VR.scalar rfl) (VRL.cons (VR.scalar rfl) (VRL.cons (VR.scalar rfl) (VRL.cons (hv1.mono hle2) (VRL.nil _)))))) (VRL.cons (VR.agg' (VRL.cons (VR.scalar rfl) (VRL.cons (VR.scalar rfl) (VRL.cons (VR.scalar rfl) (VRL.cons hv2 (VRL.nil _)))))) (VRL.nil _))) ?_
  refine apart_walk prims1_ok ((start_pg.kept k1).kept k2) (l := toF l0) (l' := toF l1) ((their_sf rfl).kept k2) p1 p2 (by rw [toF_len]; exact p3) p4 (their_sf rfl) p5 p6 (by rw [toF_len]; exact p7) p8 ?_
  intro S'; rfl
end Go.Proofs.YtdmbgbennlnpcaaDoor.Q
namespace Go.Proofs.YtdmbgbennlnpcaaDoorAbs
open Go.RowKit
set_option linter.unusedVariables false
set_option linter.unusedSimpArgs false
theorem step_new {P : Program} {ρ : Ren} {S : St} {w w' : World} (h : Rel P ρ S w) (hf : ∀ L, ρ S.next L = none) (hb : Below w.heap.size w w') {cs : List Value} {g : Nat} (hg : w.heap.size ≤ g) (hlt : g < w'.heap.size) (hl : cs.all leaf = true)
    (hc : ∀ (j : Nat) (v : Value), cs[j]? = some v → w'.cell? ⟨g, j, none⟩ = some v) :
    Step P ρ S w (ρ.add S.next 0 ⟨g, 0, 0, 0, 0, false⟩) (S.push ⟨cs, 0, false, 0⟩) w' := by
  have st := step_below h hb
  have hle : ρ.le (ρ.add S.next 0 ⟨g, 0, 0, 0, 0, false⟩) := by
    intro b L loc k
    unfold Ren.add
    rw [if_neg (fun q => by rw [q.1, hf] at k; cases k)]
    exact k
  have hr : ∀ b L loc, ρ.add S.next 0 ⟨g, 0, 0, 0, 0, false⟩ b L = some loc → (b = S.next ∧ L = 0 ∧ loc = ⟨g, 0, 0, 0, 0, false⟩) ∨ (b ≠ S.next ∧ ρ b L = some loc) := by
    intro b L loc hb
    unfold Ren.add at hb
    split at hb
    · rename_i q; cases hb; exact .inl ⟨q.1, q.2, rfl⟩
    · rename_i q
      refine .inr ⟨fun e => ?_, hb⟩
      rw [e, hf] at hb
      cases hb
  refine ⟨hle, st.env, ⟨fun g' hg' => hle _ _ _ (h.glob g' hg'), fun b L loc k => ?_, fun b L loc blk k gb => ?_, fun b L loc b' L' loc' k k' o e a a' => ?_⟩, st.hsz, Nat.le_succ _, Nat.le_refl _, fun b L loc k k0 => ?_, fun m B hm hl hB hk => hb.block B hB⟩
  · rcases hr _ _ _ k with ⟨rfl, rfl, rfl⟩ | ⟨_, k⟩
    · exact hlt
    · exact st.rel.loc _ _ _ k
  · rcases hr _ _ _ k with ⟨rfl, rfl, rfl⟩ | ⟨hne, k⟩
    · rw [St.get_push_self] at gb
      cases gb
      refine ⟨rfl, fun q => (by cases q), fun _ j v _ _ hj => ⟨j, v, by simp, hc j v hj, .leaf _ ?_⟩, fun _ q => (by cases q)⟩
      rw [List.all_eq_true] at hl
      exact hl v (List.mem_of_getElem? hj)
    · rw [St.get_push_ne S _ hne] at gb
      have q := st.rel.blk _ _ _ _ k gb
      refine ⟨q.own, q.row, fun a j v h1 h2 h3 => ?_, q.all⟩
      obtain ⟨A', v', e1, e2, e3⟩ := q.cells a j v h1 h2 h3
      exact ⟨A', v', e1, e2, e3.mono hle⟩
  · have al : ∀ b L, b ≠ S.next → Alive (S.push ⟨cs, 0, false, 0⟩) b L → Alive S b L := by
      rintro b L hne ⟨blk, gb, hk⟩
      rw [St.get_push_ne S _ hne] at gb
      exact ⟨blk, gb, hk⟩
    rcases hr _ _ _ k with ⟨e1, e2, e3⟩ | ⟨hn1, k1⟩
    · rw [e3] at o; cases o
    · rcases hr _ _ _ k' with ⟨e1, e2, e3⟩ | ⟨hn2, k2⟩
      · exfalso
        have := h.loc _ _ _ k1
        rw [e, e3] at this
        simp only at this
        omega
      · exact st.rel.inj _ _ _ _ _ _ k1 k2 o e (al _ _ hn1 a) (al _ _ hn2 a')
  · rcases hr _ _ _ k with ⟨rfl, rfl, rfl⟩ | ⟨_, k1⟩
    · exact ⟨.inl ⟨Nat.le_refl _, Nat.lt_succ_self _⟩, .inl hg⟩
    · rw [k1] at k0; cases k0
theorem step_pass {P : Program} {ρ : Ren} {S : St} {w w' : World} (h : Rel P ρ S w) (hf : ∀ L, ρ S.next L = none) (hb : Below w.heap.size w w') (B : Blk) : Step P ρ S w ρ (S.push B) w' := by
  have st := step_below h hb
  have hne : ∀ b L loc, ρ b L = some loc → b ≠ S.next := fun b L loc k e => by rw [e, hf] at k; cases k
  refine ⟨Ren.le_refl ρ, st.env, ⟨h.glob, st.rel.loc, fun b L loc blk k gb => ?_, fun b L loc b' L' loc' k k' o e a a' => ?_⟩, st.hsz, Nat.le_succ _, Nat.le_refl _, fun b L loc k k0 => (by rw [k] at k0; cases k0), fun m B' hm hl hB hk => hb.block B' hB⟩
  · rw [St.get_push_ne S _ (hne _ _ _ k)] at gb
    exact st.rel.blk _ _ _ _ k gb
  · have al : ∀ b L, b ≠ S.next → Alive (S.push B) b L → Alive S b L := by
      rintro b L hn ⟨blk, gb, hk⟩
      rw [St.get_push_ne S _ hn] at gb
      exact ⟨blk, gb, hk⟩
    exact st.rel.inj _ _ _ _ _ _ k k' o e (al _ _ (hne _ _ _ k) a) (al _ _ (hne _ _ _ k') a')
end Go.Proofs.YtdmbgbennlnpcaaDoorAbs
namespace Go.Proofs.YtdmbgbennlnpcaaDoorW.PrintLast
end Go.Proofs.YtdmbgbennlnpcaaDoorW.PrintLast
namespace Go.Proofs.YtdmbgbennlnpcaaDoorW.PrintMore
end Go.Proofs.YtdmbgbennlnpcaaDoorW.PrintMore
namespace Go.Proofs.YtdmbgbennlnpcaaDoor.Hd
open Go.RowKit Go.Proofs.YtdmbgbennlnpcaaDoorW.PrintWords
section
variable {P : Program} {ops : Array Oper} {rest : List Oper} {o : Oper} {a : Act} {Q : Exit → Act → World → Prop} {W : World}
theorem gate_callee {f : FuncId} {xs : Array Operand} {ts : Array TypeId} (_ho : o.op = .call { callee := .value (.func f), args := xs, argTypes := ts }) (h : wpList P ops Q (o :: rest) a W) : wpList P ops Q (o :: rest) a W := h
theorem gate_builtin {b : Builtin} {xs : Array Operand} {ts : Array TypeId} (_ho : o.op = .call { callee := .builtin b, args := xs, argTypes := ts }) (h : wpList P ops Q (o :: rest) a W) : wpList P ops Q (o :: rest) a W := h
end
end Go.Proofs.YtdmbgbennlnpcaaDoor.Hd
namespace Go.Proofs.YtdmbgbennlnpcaaDoor.Hd
open Go.RowKit Go.Proofs.YtdmbgbennlnpcaaDoorW.PrintWords Go.Proofs.YtdmbgbennlnpcaaDoorW.PrintLast Go.Proofs.YtdmbgbennlnpcaaDoorW.PrintMore
set_option linter.unusedVariables false
set_option linter.unusedSimpArgs false
def errW : Option Int → Value
  | none => .nilIface
  | some c => .iface 68 (.int .i64 c)
theorem errW_none : errW none = .nilIface := rfl
theorem errW_some (c : Int) : errW (some c) = .iface 68 (.int .i64 c) := rfl
theorem info5 : (Tryd.prog.info? 5).map (fun i => (i.zero, i.size, i.bytes)) = some (some (.int .u8 0), 1, 1) := by kernel_rfl
theorem info50 : (Tryd.prog.info? 50).map (fun i => (i.zero, i.size, i.bytes)) = some (some (.agg #[(.string ⟨#[]⟩), (.string ⟨#[]⟩)]), 2, 32) := by kernel_rfl
structure S50 where
  f0 : ByteArray
  f1 : ByteArray
def k50 : Kd S50 := Kd.iso (Kd.pair Kd.string Kd.string) (fun x : S50 => (x.f0, x.f1))
theorem k50_open {w : World} {x : S50} {cs : List Value} (h : k50.K w x cs) : cs = [.string x.f0, .string x.f1] := by
  obtain ⟨_, _, rfl, rfl, rfl⟩ := h
  exact rfl
theorem k50_openM {w : World} {base : Nat} {ok : Nat → Prop} {x : S50} {cs : List Value} (h : k50.M w base ok x cs) : cs = [.string x.f0, .string x.f1] := by
  obtain ⟨_, _, rfl, rfl, rfl⟩ := h
  exact rfl
theorem k50_mkM (w : World) (base : Nat) (ok : Nat → Prop) (x : S50)  : k50.M w base ok x [.string x.f0, .string x.f1] := ⟨[.string x.f0], [.string x.f1], rfl, rfl, rfl⟩
structure S38 where
  f0 : ByteArray
  f1 : ByteArray
  f2 : Int
  f3 : (List S50)
def k38 : Kd S38 := Kd.iso (Kd.pair Kd.string (Kd.pair Kd.string (Kd.pair (Kd.int .i64) (Kd.slice 50 k50)))) (fun x : S38 => (x.f0, x.f1, x.f2, x.f3))
theorem k38_open {w : World} {x : S38} {cs : List Value} (h : k38.K w x cs) : ∃ A3 c3, cs = [.string x.f0, .string x.f1, .int .i64 x.f2, .slice A3 x.f3.length c3] ∧ x.f3.length ≤ c3 ∧ k50.C w A3 x.f3.length x.f3 := by
  obtain ⟨_, _, rfl, rfl, ⟨_, _, rfl, rfl, ⟨_, _, rfl, rfl, ⟨A3, c3, rfl, l3, g3⟩⟩⟩⟩ := h
  exact ⟨A3, c3, rfl, l3, g3⟩
structure S24 where
  f0 : Int
  f1 : ByteArray
  f2 : Int
  f3 : (List S50)
def k24 : Kd S24 := Kd.iso (Kd.pair (Kd.int .i64) (Kd.pair Kd.string (Kd.pair (Kd.int .i64) (Kd.slice 50 k50)))) (fun x : S24 => (x.f0, x.f1, x.f2, x.f3))
theorem k24_open {w : World} {x : S24} {cs : List Value} (h : k24.K w x cs) : ∃ A3 c3, cs = [.int .i64 x.f0, .string x.f1, .int .i64 x.f2, .slice A3 x.f3.length c3] ∧ x.f3.length ≤ c3 ∧ k50.C w A3 x.f3.length x.f3 := by
  obtain ⟨_, _, rfl, rfl, ⟨_, _, rfl, rfl, ⟨_, _, rfl, rfl, ⟨A3, c3, rfl, l3, g3⟩⟩⟩⟩ := h
  exact ⟨A3, c3, rfl, l3, g3⟩
theorem isEmpty_bne (l : List UInt8) : l.isEmpty = !(l != []) := by cases l <;> rfl
theorem isEmpty_beq (l : List UInt8) : l.isEmpty = (l == []) := by cases l <;> rfl
end Go.Proofs.YtdmbgbennlnpcaaDoor.Hd
namespace Go.Proofs.YtdmbgbennlnpcaaDoor.Hd
open Go.RowKit Go.Proofs.YtdmbgbennlnpcaaDoorW.PrintWords Go.Proofs.YtdmbgbennlnpcaaDoorW.PrintLast Go.Proofs.YtdmbgbennlnpcaaDoorW.PrintMore
set_option linter.unusedVariables false
set_option linter.unusedSimpArgs false
structure RdSt where
  asks : Bool
  most : Int
  at_ : Int
  word : List Int
  len : Int
  err : Option Int
  qm : ByteArray
  qt : ByteArray
  qn : Int
  ps : Int
  pr : ByteArray
  pn : Int
  name : ByteArray
  field : List S50
def RdSt.cells (s : RdSt) (vw vf : Value) : Array Value :=
  #[.bool s.asks, .int .i64 s.most, .int .i64 s.at_, vw, .int .i64 s.len, errW s.err, .string s.qm, .string s.qt, .int .i64 s.qn, .slice none 0 0,
    .int .i64 s.ps, .string s.pr, .int .i64 s.pn, .slice none 0 0, .string s.name, vf]
structure Rd (base : Nat) (W : World) (g : Nat) (s : RdSt) (vw vf : Value) : Prop where
  blk : W.heap[g]? = some (.cells (s.cells vw vf) 113 (0, 0))
  word : Kd.R (Kd.int .u8) 5 W base (fun _ => True) vw s.word
  field : Kd.R k50 50 W base (fun _ => True) vf s.field
  ge : base ≤ g
  size : base ≤ W.heap.size
structure Chg (base : Nat) (w : World) (g : Nat) (u0 u1 : Value) (W : World) (v0 v1 : Value) : Prop where
  below : Below base w W
  keep : ∀ k, k < w.heap.size → k ≠ g → some k ≠ u0.ownBlock → some k ≠ u1.ownBlock → W.heap[k]? = w.heap[k]?
  row0 : v0.ownBlock = u0.ownBlock ∨ ∀ k, v0.ownBlock = some k → w.heap.size ≤ k
  row1 : v1.ownBlock = u1.ownBlock ∨ ∀ k, v1.ownBlock = some k → w.heap.size ≤ k
structure St (base : Nat) (w : World) (g : Nat) (u0 u1 : Value) (W : World) (s : RdSt) (v0 v1 : Value) : Prop where
  rd : Rd base W g s v0 v1
  chg : Chg base w g u0 u1 W v0 v1
section
variable {base : Nat} {w W W1 : World} {g : Nat} {u0 u1 v0 v1 : Value} {s : RdSt}
theorem Chg.refl (base : Nat) (w : World) (g : Nat) (u0 u1 : Value) : Chg base w g u0 u1 w u0 u1 := ⟨Below.refl _ _, fun _ _ _ _ _ => rfl, .inl rfl, .inl rfl⟩
theorem Rd.st (h : Rd base w g s u0 u1) : St base w g u0 u1 w s u0 u1 := ⟨h, Chg.refl _ _ _ _ _⟩
theorem Chg.trans {v0' v1' : Value} (h : Chg base w g u0 u1 W v0 v1) (k : Chg base W g v0 v1 W1 v0' v1') : Chg base w g u0 u1 W1 v0' v1' := by
  refine ⟨h.below.trans k.below, fun i hi hg h0 h1 => ?_, ?_, ?_⟩
  · refine (k.keep i (Nat.lt_of_lt_of_le hi h.below.size) hg ?_ ?_).trans (h.keep i hi hg h0 h1)
    · rcases h.row0 with e | e
      · rw [e]; exact h0
      · intro e'
        have := e i e'.symm
        omega
    · rcases h.row1 with e | e
      · rw [e]; exact h1
      · intro e'
        have := e i e'.symm
        omega
  · rcases k.row0 with e | e
    · rw [e]; exact h.row0
    · exact .inr (fun i hi => Nat.le_trans h.below.size (e i hi))
  · rcases k.row1 with e | e
    · rw [e]; exact h.row1
    · exact .inr (fun i hi => Nat.le_trans h.below.size (e i hi))
theorem St.trans {s' : RdSt} {v0' v1' : Value} (h : St base w g u0 u1 W s v0 v1) (k : St base W g v0 v1 W1 s' v0' v1') : St base w g u0 u1 W1 s' v0' v1' := ⟨k.rd, h.chg.trans k.chg⟩
theorem St.on (h : St base w g u0 u1 W s v0 v1) (hb : Below W.heap.size W W1) : St base w g u0 u1 W1 s v0 v1 :=
  ⟨⟨blk_below h.rd.blk hb, Kd.R_below h.rd.word hb, Kd.R_below h.rd.field hb, h.rd.ge, Nat.le_trans h.rd.size hb.size⟩,
   ⟨h.chg.below.trans (hb.mono h.rd.size), fun i hi hg h0 h1 => (hb.block i (Nat.lt_of_lt_of_le hi h.chg.below.size)).trans (h.chg.keep i hi hg h0 h1), h.chg.row0, h.chg.row1⟩⟩
theorem St.alloc (h : St base w g u0 u1 W s v0 v1) (o : Obj) : St base w g u0 u1 (W.alloc o) s v0 v1 := h.on (below_alloc (Below.refl _ _) o)
theorem St.drew (h : St base w g u0 u1 W s v0 v1) : St base w g u0 u1 W.drew s v0 v1 := h.on (below_drew (Below.refl _ _))
theorem St.drewN (h : St base w g u0 u1 W s v0 v1) (n : Nat) : St base w g u0 u1 (W.drewN n) s v0 v1 := h.on (pw_below_drewN (Below.refl _ _) n)
theorem Chg.put (h : Chg base w g u0 u1 W v0 v1) (hg : base ≤ g) {j : Nat} {v : Value} {v0' v1' : Value} (e0 : v0'.ownBlock = v0.ownBlock) (e1 : v1'.ownBlock = v1.ownBlock) : Chg base w g u0 u1 (W.setCell ⟨g, j, none⟩ v) v0' v1' :=
  ⟨h.below.setCell hg _, fun i hi hk h0 h1 => (Below.heap_setCell W _ v i hk).trans (h.keep i hi hk h0 h1), by rw [e0]; exact h.row0, by rw [e1]; exact h.row1⟩
theorem St.put {s' : RdSt} (h : St base w g u0 u1 W s v0 v1) (j : Nat) (v : Value) (hc : (s.cells v0 v1).setIfInBounds j v = s'.cells v0 v1) (hw : s'.word = s.word) (hf : s'.field = s.field) :
    St base w g u0 u1 (W.setCell ⟨g, j, none⟩ v) s' v0 v1 := by
  refine ⟨⟨blk_put h.rd.blk j v hc, ?_, ?_, h.rd.ge, by simpa [World.setCell] using h.rd.size⟩, h.chg.put h.rd.ge rfl rfl⟩
  · rw [hw]; exact Kd.R_set h.rd.word h.rd.blk (by decide) j v
  · rw [hf]; exact Kd.R_set h.rd.field h.rd.blk (by decide) j v
theorem St.cut {A : Option Addr} {n c m : Nat} {s' : RdSt} (h : St base w g u0 u1 W s (.slice A n c) v1) (hm : m ≤ s.word.length) (hs : s' = {s with word := s.word.take m}) :
    St base w g u0 u1 (W.setCell ⟨g, 3, none⟩ (.slice A m c)) s' (.slice A m c) v1 := by
  subst hs
  refine ⟨⟨blk_put h.rd.blk 3 _ rfl, ?_, Kd.R_set h.rd.field h.rd.blk (by decide) 3 _, h.rd.ge, by simpa [World.setCell] using h.rd.size⟩, h.chg.put h.rd.ge ?_ rfl⟩
  · exact Kd.R_take (Kd.R_set h.rd.word h.rd.blk (by decide) 3 _) hm
  · cases A <;> rfl
theorem St.grow {p : Int} {x1 : Value} (h : St base w g u0 u1 W s v0 v1) (hr : Kd.R (Kd.int .u8) 5 W1 base (fun _ => True) x1 (s.word ++ [p])) (hb : Below base W W1) (hg : W.grownBy W1 v0.ownBlock)
    (ht : x1.ownBlock = v0.ownBlock ∨ ∃ b, x1.ownBlock = some b ∧ W.heap.size ≤ b) : St base w g u0 u1 (W1.setCell ⟨g, 3, none⟩ x1) {s with word := s.word ++ [p]} x1 v1 := by
  have hblk := blk_grown h.rd.blk hg (Kd.R_ne h.rd.word h.rd.blk (by decide))
  have hfi := Kd.R_grown (Kd.R_apartR h.rd.field h.rd.word (by decide)) hg (fun _ hk => hk.2)
  have hfi' : Kd.R k50 50 W1 base (fun _ => True) v1 s.field := Kd.R_mono hfi (fun _ _ => trivial)
  refine ⟨⟨blk_put hblk 3 _ rfl, Kd.R_set hr hblk (by decide) 3 _, Kd.R_set hfi' hblk (by decide) 3 _, h.rd.ge, ?_⟩, ?_⟩
  · have := h.rd.size
    have := hg.size
    simp only [World.setCell, Array.size_modify]
    omega
  · have hw0 : ∀ i, i < w.heap.size → some i ≠ u0.ownBlock → some i ≠ v0.ownBlock := by
      intro i hi h0
      rcases h.chg.row0 with e | e
      · rw [e]; exact h0
      · intro e'
        have := e i e'.symm
        omega
    refine ⟨(h.chg.below.trans hb).setCell h.rd.ge _, fun i hi hk h0 h1 => ?_, ?_, h.chg.row1⟩
    · exact (Below.heap_setCell W1 _ x1 i hk).trans ((hg.block i (Nat.lt_of_lt_of_le hi h.chg.below.size) (hw0 i hi h0)).trans (h.chg.keep i hi hk h0 h1))
    · rcases ht with e | ⟨b, e, hle⟩
      · rw [e]; exact h.chg.row0
      · refine .inr (fun k hk => ?_)
        rw [e] at hk
        injection hk with hk
        have := h.chg.below.size
        omega
theorem St.growf {p : S50} {x1 : Value} (h : St base w g u0 u1 W s v0 v1) (hr : Kd.R k50 50 W1 base (fun _ => True) x1 (s.field ++ [p])) (hb : Below base W W1) (hg : W.grownBy W1 v1.ownBlock)
    (ht : x1.ownBlock = v1.ownBlock ∨ ∃ b, x1.ownBlock = some b ∧ W.heap.size ≤ b) : St base w g u0 u1 (W1.setCell ⟨g, 15, none⟩ x1) {s with field := s.field ++ [p]} v0 x1 := by
  have hblk := blk_grown h.rd.blk hg (Kd.R_ne h.rd.field h.rd.blk (by decide))
  have hwo := Kd.R_grown (Kd.R_apartR h.rd.word h.rd.field (by decide)) hg (fun _ hk => hk.2)
  have hwo' : Kd.R (Kd.int .u8) 5 W1 base (fun _ => True) v0 s.word := Kd.R_mono hwo (fun _ _ => trivial)
  refine ⟨⟨blk_put hblk 15 _ rfl, Kd.R_set hwo' hblk (by decide) 15 _, Kd.R_set hr hblk (by decide) 15 _, h.rd.ge, ?_⟩, ?_⟩
  · have := h.rd.size
    have := hg.size
    simp only [World.setCell, Array.size_modify]
    omega
  · have hw0 : ∀ i, i < w.heap.size → some i ≠ u1.ownBlock → some i ≠ v1.ownBlock := by
      intro i hi h0
      rcases h.chg.row1 with e | e
      · rw [e]; exact h0
      · intro e'
        have := e i e'.symm
        omega
    refine ⟨(h.chg.below.trans hb).setCell h.rd.ge _, fun i hi hk h0 h1 => ?_, h.chg.row0, ?_⟩
    · exact (Below.heap_setCell W1 _ x1 i hk).trans ((hg.block i (Nat.lt_of_lt_of_le hi h.chg.below.size) (hw0 i hi h1)).trans (h.chg.keep i hi hk h0 h1))
    · rcases ht with e | ⟨b, e, hle⟩
      · rw [e]; exact h.chg.row1
      · refine .inr (fun k hk => ?_)
        rw [e] at hk
        injection hk with hk
        have := h.chg.below.size
        omega
end
end Go.Proofs.YtdmbgbennlnpcaaDoor.Hd
namespace Go.Proofs.YtdmbgbennlnpcaaDoor.Hd
open Go.RowKit Go.Proofs.YtdmbgbennlnpcaaDoorW.PrintWords Go.Proofs.YtdmbgbennlnpcaaDoorW.PrintLast Go.Proofs.YtdmbgbennlnpcaaDoorW.PrintMore
set_option linter.unusedVariables false
set_option linter.unusedSimpArgs false
set_option maxRecDepth 8000
def RdSt.taken (s : RdSt) (next : Int) : RdSt := {s with word := [], at_ := next}
theorem take_calls (base : Nat) (w : World) (g : Nat) (s : RdSt) (u0 u1 : Value) (next : Int) (h : Rd base w g s u0 u1) :
    Calls Tryd.prog 135 #[.pointer (some ⟨g, 0, none⟩), .int .i64 next] w fun e w' => ∃ v0, e = .returned (.string (strOfNums s.word)) ∧ St base w g u0 u1 w' (s.taken next) v0 u1 := by
  obtain ⟨A, c, rfl, hl, hc⟩ := Kd.R_reads h.word
  have e2 : w.cell? ⟨g, 2, none⟩ = some (.int .i64 s.at_) := (blk_cell h.blk 2).trans rfl
  have e3 : w.cell? ⟨g, 3, none⟩ = some (.slice A s.word.length c) := (blk_cell h.blk 3).trans rfl
  have f2 := blk_frozen h.blk 2
  have f3 := blk_frozen h.blk 3
  have hcv := Kd.C_string (P := Tryd.prog) (A := A) (c := c) (src := 25) (dst := 9) (e := 5) Tryd.underlying25 Tryd.underlying5 Tryd.underlying9 hc
  have X := Aside0.mk h.st
  clear h hc
  go_enter Tryd.func135, Tryd.ntmps135
  go_wp2
  go_ret
  exact ⟨_, rfl, (X.out.cut (Nat.zero_le _) rfl).put 2 _ rfl rfl rfl⟩
def isVersion (word : List Int) (c : Int) : Bool :=
  if (word.length : Int) < 7 then c == bt ⟨#[72, 84, 84, 80, 47, 49, 46]⟩ (word.length : Int) else if (word.length : Int) = 7 then c == 48 || c == 49 else false
theorem version_calls (base : Nat) (w : World) (g : Nat) (s : RdSt) (u0 u1 : Value) (c : Int) (h : Rd base w g s u0 u1) :
    Calls Tryd.prog 137 #[.pointer (some ⟨g, 0, none⟩), .int .u8 c] w fun e w' => e = .returned (.bool (isVersion s.word c)) ∧ Below w.heap.size w w' := by
  obtain ⟨A, cp, rfl, hl, hc⟩ := Kd.R_reads h.word
  have e3 : w.cell? ⟨g, 3, none⟩ = some (.slice A s.word.length cp) := (blk_cell h.blk 3).trans rfl
  have f3 := blk_frozen h.blk 3
  clear h hc
  unfold isVersion
  go_enter Tryd.func137, Tryd.ntmps137
  by_cases c1 : (s.word.length : Int) < 7
  · rw [if_pos c1]
    have c0 : 0 ≤ (s.word.length : Int) := by omega
    have d1 := decide_eq_true c1
    have d0 := decide_eq_true c0
    go_wp2
    go_ret
    refine ⟨?_, Below.refl _ _⟩
    simp only [bt, Int.toNat_natCast]
    rw [dif_pos (show s.word.length < (⟨#[72, 84, 84, 80, 47, 49, 46]⟩ : ByteArray).size from (by omega : s.word.length < 7))]
    rfl
  · rw [if_neg c1]
    have d1 := decide_eq_false c1
    by_cases c2 : (s.word.length : Int) = 7
    · rw [if_pos c2]
      have n7 : s.word.length = 7 := by omega
      rw [n7] at e3
      clear c1 c2 d1 n7 hl
      by_cases c3 : c = 48
      · subst c3
        go_wp2
        go_ret
        exact ⟨rfl, Below.refl _ _⟩
      · have d3 : (c == 48) = false := by simpa using c3
        rw [d3]
        go_wp2
        go_ret
        exact ⟨rfl, Below.refl _ _⟩
    · rw [if_neg c2]
      have d2 : ((s.word.length : Int) == 7) = false := by simpa using c2
      go_wp2
      go_ret
      exact ⟨rfl, Below.refl _ _⟩
end Go.Proofs.YtdmbgbennlnpcaaDoor.Hd
namespace Go.Proofs.YtdmbgbennlnpcaaDoor.Hd
open Go.RowKit Go.Proofs.YtdmbgbennlnpcaaDoorW.PrintWords Go.Proofs.YtdmbgbennlnpcaaDoorW.PrintLast Go.Proofs.YtdmbgbennlnpcaaDoorW.PrintMore
set_option linter.unusedVariables false
set_option linter.unusedSimpArgs false
theorem ba_toList (s : ByteArray) : s.toList = s.data.toList := ByteArray.toList_eq s
theorem ba_ext {a b : ByteArray} (h : a.data.toList = b.data.toList) : a = b := by
  cases a; cases b; simp at h; simp [h]
theorem ba_len (s : ByteArray) : s.data.toList.length = s.size := by simp
theorem byte_all {p : Int → Prop} (h : ∀ n : Fin 256, p (n.val : Int)) (c : Int) (h0 : 0 ≤ c) (h1 : c ≤ 255) : p c := by
  obtain ⟨n, rfl⟩ := Int.eq_ofNat_of_zero_le h0
  exact h ⟨n, by omega⟩
theorem wrap_in {n : Int} (h : -9223372036854775808 ≤ n ∧ n ≤ 9223372036854775807) : wrap64 n = n := by unfold wrap64; omega
theorem scan_nil {s : ByteArray} {i : Int} (h0 : 0 ≤ i) (h1 : i ≤ s.size) (h : s.data.toList.drop i.toNat = []) : i = s.size := by
  have : s.data.toList.length ≤ i.toNat := by simpa using h
  rw [ba_len] at this
  omega
theorem scan_cons {s : ByteArray} {i : Int} {b : UInt8} {l : List UInt8} (h0 : 0 ≤ i) (h : s.data.toList.drop i.toNat = b :: l) : i < s.size ∧ bt s i = (b.toNat : Int) ∧ s.data.toList.drop (i + 1).toNat = l := by
  have hl : i.toNat < s.data.toList.length := by
    rcases Nat.lt_or_ge i.toNat s.data.toList.length with h' | h'
    · exact h'
    · rw [List.drop_of_length_le h'] at h; cases h
  have hd := List.drop_eq_getElem_cons hl
  rw [hd] at h
  obtain ⟨h2, h3⟩ := List.cons.inj h
  rw [ba_len] at hl
  refine ⟨by omega, ?_, ?_⟩
  · rw [← bt_at s i hl, ← h2]
    simp
    rfl
  · rw [show (i + 1).toNat = i.toNat + 1 by omega]
    exact h3
theorem byte_range (b : UInt8) : (0 : Int) ≤ (b.toNat : Int) ∧ (b.toNat : Int) ≤ 255 := by have := b.toNat_lt; omega
theorem Ev.get {α : Type} {g : Nat → Option α} {r : α} (h : Ev g r) : ∃ k, g k = some r := h.rounds
end Go.Proofs.YtdmbgbennlnpcaaDoor.Hd
namespace Go.Proofs.YtdmbgbennlnpcaaDoor.Hd
open Go.RowKit Go.Proofs.YtdmbgbennlnpcaaDoorW.PrintWords Go.Proofs.YtdmbgbennlnpcaaDoorW.PrintLast Go.Proofs.YtdmbgbennlnpcaaDoorW.PrintMore
set_option linter.unusedVariables false
set_option linter.unusedSimpArgs false
def strings_IndexByte.f (a0 : ByteArray) (a1 : Int) : Option Int := some (Go.Lib.indexByte a0.data.toList a1.toNat.toUInt8)
theorem strings_IndexByte.calls (a0 : ByteArray) (a1 : Int) (r : Int) (w : World) (h : strings_IndexByte.f a0 a1 = some r) :
    Calls Tryd.prog 96 #[.string a0, .int .u8 a1] w fun e w' => e = .returned (.int .i64 r) ∧ Drawn0 w w' := by
  obtain rfl := Option.some.inj h
  refine (Tryd.strings_IndexByte a0 a1 w).mono ?_
  rintro e w' ⟨rfl, rfl⟩
  exact ⟨rfl, Drawn0.refl _⟩
def strings_Trim.f (a0 a1 : ByteArray) : Option ByteArray := if a0.size ≤ 9223372036854775807 ∧ a1.size < 4294967281 ∧ (a1.data.toList.all fun b => decide (b.toNat < 128)) = true then some ⟨(Go.Lib.trimS a0.data.toList a1.data.toList).toArray⟩ else none
theorem strings_Trim.calls (a0 a1 r : ByteArray) (w : World) (h : strings_Trim.f a0 a1 = some r) :
    Calls Tryd.prog 97 #[.string a0, .string a1] w fun e w' => e = .returned (.string r) ∧ Below w.heap.size w w' := by
  unfold strings_Trim.f at h
  split at h
  case isFalse => cases h
  rename_i hc
  obtain ⟨h1, h2, h3⟩ := hc
  obtain rfl := Option.some.inj h
  refine (Any.strings_Trim_laid Tryd.lays160 (by kernel_rfl) a0 a1 w h1 h2 (fun j b hb => ?_)).mono ?_
  · have := List.all_eq_true.1 h3 b (List.mem_of_getElem? hb)
    simpa using this
  · rintro e w' ⟨rfl, hb⟩
    exact ⟨rfl, hb⟩
end Go.Proofs.YtdmbgbennlnpcaaDoor.Hd
namespace Go.Proofs.YtdmbgbennlnpcaaDoor.Hd
open Go.RowKit Go.Proofs.YtdmbgbennlnpcaaDoorW.PrintWords Go.Proofs.YtdmbgbennlnpcaaDoorW.PrintLast Go.Proofs.YtdmbgbennlnpcaaDoorW.PrintMore
set_option linter.unusedVariables false
set_option linter.unusedSimpArgs false
def chars_Digit.f (a0 : Int) : Option (Bool) := if a0 ≥ 48 then (some (decide (a0 ≤ 57))) else (some false)
set_option maxHeartbeats 8000000 in
set_option maxRecDepth 100000 in
theorem chars_Digit.calls (a0 : Int) (r : Bool) (w : World) (h : chars_Digit.f a0 = some r) :
    Calls Tryd.prog 94 #[.int .u8 a0] w fun e w' => e = .returned (.bool r) ∧ Drawn0 w w' := by
  have H : (if a0 ≥ 48 then (some (decide (a0 ≤ 57))) else (some false)) = some r := h
  clear h
  by_cases c2 : a0 ≥ 48
  · rw [if_pos c2] at H
    have c2b0 : decide (48 ≤ a0) = true := decide_eq_true c2
    clear c2
    obtain rfl := Option.some.inj H
    go_enter Tryd.func94, Tryd.ntmps94
    go_wp2
    go_ret
    exact ⟨by first | rfl | (simp; done) | (simp [*]; done), by repeat (first | exact Drawn0.refl _ | apply Drawn0.step)⟩
  · rw [if_neg c2] at H
    have c2b0 : decide (48 ≤ a0) = false := decide_eq_false c2
    clear c2
    obtain rfl := Option.some.inj H
    go_enter Tryd.func94, Tryd.ntmps94
    go_wp2
    go_ret
    exact ⟨by first | rfl | (simp; done) | (simp [*]; done), by repeat (first | exact Drawn0.refl _ | apply Drawn0.step)⟩
def chars_letter.f (a0 : Int) : Option (Bool) := if a0 ≥ 97 then (if a0 ≤ 122 then (some true) else (if a0 ≥ 65 then (some (decide (a0 ≤ 90))) else (some false))) else (if a0 ≥ 65 then (some (decide (a0 ≤ 90))) else (some false))
set_option maxHeartbeats 8000000 in
set_option maxRecDepth 100000 in
theorem chars_letter.calls (a0 : Int) (r : Bool) (w : World) (h : chars_letter.f a0 = some r) :
    Calls Tryd.prog 95 #[.int .u8 a0] w fun e w' => e = .returned (.bool r) ∧ Drawn0 w w' := by
  have H : (if a0 ≥ 97 then (if a0 ≤ 122 then (some true) else (if a0 ≥ 65 then (some (decide (a0 ≤ 90))) else (some false))) else (if a0 ≥ 65 then (some (decide (a0 ≤ 90))) else (some false))) = some r := h
  clear h
  by_cases c2 : a0 ≥ 97
  · rw [if_pos c2] at H
    have c2b0 : decide (97 ≤ a0) = true := decide_eq_true c2
    clear c2
    by_cases c3 : a0 ≤ 122
    · rw [if_pos c3] at H
      have c3b0 : decide (a0 ≤ 122) = true := decide_eq_true c3
      clear c3
      obtain rfl := Option.some.inj H
      go_enter Tryd.func95, Tryd.ntmps95
      go_wp2
      go_ret
      exact ⟨by first | rfl | (simp; done) | (simp [*]; done), by repeat (first | exact Drawn0.refl _ | apply Drawn0.step)⟩
    · rw [if_neg c3] at H
      have c3b0 : decide (a0 ≤ 122) = false := decide_eq_false c3
      clear c3
      by_cases c4 : a0 ≥ 65
      · rw [if_pos c4] at H
        have c4b0 : decide (65 ≤ a0) = true := decide_eq_true c4
        clear c4
        obtain rfl := Option.some.inj H
        go_enter Tryd.func95, Tryd.ntmps95
        go_wp2
        go_ret
        exact ⟨by first | rfl | (simp; done) | (simp [*]; done), by repeat (first | exact Drawn0.refl _ | apply Drawn0.step)⟩
      · rw [if_neg c4] at H
        have c4b0 : decide (65 ≤ a0) = false := decide_eq_false c4
        clear c4
        obtain rfl := Option.some.inj H
        go_enter Tryd.func95, Tryd.ntmps95
        go_wp2
        go_ret
        exact ⟨by first | rfl | (simp; done) | (simp [*]; done), by repeat (first | exact Drawn0.refl _ | apply Drawn0.step)⟩
  · rw [if_neg c2] at H
    have c2b0 : decide (97 ≤ a0) = false := decide_eq_false c2
    clear c2
    by_cases c5 : a0 ≥ 65
    · rw [if_pos c5] at H
      have c5b0 : decide (65 ≤ a0) = true := decide_eq_true c5
      clear c5
      obtain rfl := Option.some.inj H
      go_enter Tryd.func95, Tryd.ntmps95
      go_wp2
      go_ret
      exact ⟨by first | rfl | (simp; done) | (simp [*]; done), by repeat (first | exact Drawn0.refl _ | apply Drawn0.step)⟩
    · rw [if_neg c5] at H
      have c5b0 : decide (65 ≤ a0) = false := decide_eq_false c5
      clear c5
      obtain rfl := Option.some.inj H
      go_enter Tryd.func95, Tryd.ntmps95
      go_wp2
      go_ret
      exact ⟨by first | rfl | (simp; done) | (simp [*]; done), by repeat (first | exact Drawn0.refl _ | apply Drawn0.step)⟩
def chars_Token.f (a0 : Int) : Option (Bool) := (chars_Digit.f a0).bind fun t81001 => (if t81001 = true then (some true) else ((chars_letter.f a0).bind fun t81002 => (if t81002 = true then (some true) else ((strings_IndexByte.f (⟨#[33, 35, 36, 37, 38, 39, 42, 43, 45, 46, 94, 95, 96, 124, 126]⟩ : ByteArray) a0).bind fun t81003 => (some (decide (t81003 ≥ 0)))))))
set_option maxHeartbeats 8000000 in
set_option maxRecDepth 100000 in
theorem chars_Token.calls (a0 : Int) (r : Bool) (w : World) (h : chars_Token.f a0 = some r) :
    Calls Tryd.prog 80 #[.int .u8 a0] w fun e w' => e = .returned (.bool r) ∧ Drawn0 w w' := by
  have H : ((chars_Digit.f a0).bind fun t81001 => (if t81001 = true then (some true) else ((chars_letter.f a0).bind fun t81002 => (if t81002 = true then (some true) else ((strings_IndexByte.f (⟨#[33, 35, 36, 37, 38, 39, 42, 43, 45, 46, 94, 95, 96, 124, 126]⟩ : ByteArray) a0).bind fun t81003 => (some (decide (t81003 ≥ 0)))))))) = some r := h
  clear h
  replace H := Option.bind_eq_some_iff.mp H
  obtain ⟨t81001, A20, H⟩ := H
  replace H : (if t81001 = true then (some true) else ((chars_letter.f a0).bind fun t81002 => (if t81002 = true then (some true) else ((strings_IndexByte.f (⟨#[33, 35, 36, 37, 38, 39, 42, 43, 45, 46, 94, 95, 96, 124, 126]⟩ : ByteArray) a0).bind fun t81003 => (some (decide (t81003 ≥ 0))))))) = some r := H
  have A2 := Aside0.mk A20
  clear A20
  by_cases c3 : t81001 = true
  · subst c3
    have H1 : (some true) = some r := by rw [if_pos rfl] at H; exact H
    clear H
    have H := H1
    clear H1
    obtain rfl := Option.some.inj H
    go_enter Tryd.func80, Tryd.ntmps80
    go_wp2_with (first | ((with_reducible refine gate_callee (f := 94) rfl ?_); refine goesL_ (some 4) rfl rfl Tryd.func94 (by kernel_rfl) rfl #[.int .u8 a0] rfl (by (try simp only [List.map_toArray, List.map_cons, List.map_nil]); first | done | rfl | (simp only [List.length_drop, List.length_take]; rfl)) ?_; (with_reducible refine (chars_Digit.calls a0 true _ A2.out).mono ?_); rintro e w' ⟨rfl, ⟨nd, rfl⟩⟩; refine ⟨_, rfl, ?_⟩))
    go_ret
    exact ⟨by first | rfl | (simp; done) | (simp [*]; done), by repeat (first | exact Drawn0.refl _ | apply Drawn0.step)⟩
  · replace c3 := Bool.eq_false_iff.mpr c3
    subst c3
    have H1 : ((chars_letter.f a0).bind fun t81002 => (if t81002 = true then (some true) else ((strings_IndexByte.f (⟨#[33, 35, 36, 37, 38, 39, 42, 43, 45, 46, 94, 95, 96, 124, 126]⟩ : ByteArray) a0).bind fun t81003 => (some (decide (t81003 ≥ 0)))))) = some r := by rw [if_neg (show ¬ (false = true) by decide)] at H; exact H
    clear H
    have H := H1
    clear H1
    replace H := Option.bind_eq_some_iff.mp H
    obtain ⟨t81002, A40, H⟩ := H
    replace H : (if t81002 = true then (some true) else ((strings_IndexByte.f (⟨#[33, 35, 36, 37, 38, 39, 42, 43, 45, 46, 94, 95, 96, 124, 126]⟩ : ByteArray) a0).bind fun t81003 => (some (decide (t81003 ≥ 0))))) = some r := H
    have A4 := Aside0.mk A40
    clear A40
    by_cases c5 : t81002 = true
    · subst c5
      have H1 : (some true) = some r := by rw [if_pos rfl] at H; exact H
      clear H
      have H := H1
      clear H1
      obtain rfl := Option.some.inj H
      go_enter Tryd.func80, Tryd.ntmps80
      go_wp2_with (first | ((with_reducible refine gate_callee (f := 94) rfl ?_); refine goesL_ (some 4) rfl rfl Tryd.func94 (by kernel_rfl) rfl #[.int .u8 a0] rfl (by (try simp only [List.map_toArray, List.map_cons, List.map_nil]); first | done | rfl | (simp only [List.length_drop, List.length_take]; rfl)) ?_; (with_reducible refine (chars_Digit.calls a0 false _ A2.out).mono ?_); rintro e w' ⟨rfl, ⟨nd, rfl⟩⟩; refine ⟨_, rfl, ?_⟩) | (go_at_call 95; (with_reducible refine (chars_letter.calls a0 true _ A4.out).mono ?_); rintro e w' ⟨rfl, ⟨nd, rfl⟩⟩))
      go_ret
      exact ⟨by first | rfl | (simp; done) | (simp [*]; done), by repeat (first | exact Drawn0.refl _ | apply Drawn0.step)⟩
    · replace c5 := Bool.eq_false_iff.mpr c5
      subst c5
      have H1 : ((strings_IndexByte.f (⟨#[33, 35, 36, 37, 38, 39, 42, 43, 45, 46, 94, 95, 96, 124, 126]⟩ : ByteArray) a0).bind fun t81003 => (some (decide (t81003 ≥ 0)))) = some r := by rw [if_neg (show ¬ (false = true) by decide)] at H; exact H
      clear H
      have H := H1
      clear H1
      replace H := Option.bind_eq_some_iff.mp H
      obtain ⟨t81003, A60, H⟩ := H
      replace H : (some (decide (t81003 ≥ 0))) = some r := H
      have A6 := Aside0.mk A60
      clear A60
      obtain rfl := Option.some.inj H
      go_enter Tryd.func80, Tryd.ntmps80
      go_wp2_with (first | ((with_reducible refine gate_callee (f := 94) rfl ?_); refine goesL_ (some 4) rfl rfl Tryd.func94 (by kernel_rfl) rfl #[.int .u8 a0] rfl (by (try simp only [List.map_toArray, List.map_cons, List.map_nil]); first | done | rfl | (simp only [List.length_drop, List.length_take]; rfl)) ?_; (with_reducible refine (chars_Digit.calls a0 false _ A2.out).mono ?_); rintro e w' ⟨rfl, ⟨nd, rfl⟩⟩; refine ⟨_, rfl, ?_⟩) | (go_at_call 95; (with_reducible refine (chars_letter.calls a0 false _ A4.out).mono ?_); rintro e w' ⟨rfl, ⟨nd, rfl⟩⟩) | (go_at_call 96; (with_reducible refine (strings_IndexByte.calls (⟨#[33, 35, 36, 37, 38, 39, 42, 43, 45, 46, 94, 95, 96, 124, 126]⟩ : ByteArray) a0 t81003 _ A6.out).mono ?_); rintro e w' ⟨rfl, ⟨nd, rfl⟩⟩))
      go_ret
      exact ⟨by first | rfl | (simp; done) | (simp [*]; done), by repeat (first | exact Drawn0.refl _ | apply Drawn0.step)⟩
def chars_IsToken.l0 : Nat → ByteArray → Int → Option (Bool)
  | 0, _, _ => none
  | k + 1, x0, x3 => if x3 < (x0.size : Int) then (if 0 ≤ x3 then ((chars_Token.f (bt x0 x3)).bind fun t44001 => (if t44001 = true then (chars_IsToken.l0 k x0 (wrap64 (x3 + 1))) else (some false))) else (none)) else (some (x0.toList != ([] : List UInt8)))
def chars_IsToken.f (k : Nat) (a0 : ByteArray) : Option (Bool) := chars_IsToken.l0 k a0 0
theorem chars_IsToken.mono_l : ∀ k, (∀ y0 y1, LeO (chars_IsToken.l0 k y0 y1) (chars_IsToken.l0 (k + 1) y0 y1))
  | 0 => fun _ _ r h => by simp [chars_IsToken.l0] at h
  | k + 1 => by
    have ih0 := chars_IsToken.mono_l k
    · intro y0 y1
      unfold chars_IsToken.l0
      repeat' first
      | (with_reducible exact ih0 _ _)
      | (with_reducible exact LeO.refl _)
      | (with_reducible exact LeO.none _)
      | (with_reducible refine LeO.ite ?_ ?_)
      | (with_reducible refine LeO.bind ?_ (fun _ => ?_))
      | exact ih0 _ _
      | exact LeO.none _
      | refine LeO.ite ?_ ?_
      | refine LeO.bind ?_ (fun _ => ?_)
theorem chars_IsToken.mono : ∀ a0 k, LeO (chars_IsToken.f k a0) (chars_IsToken.f (k + 1) a0) := by
  intro a0 k
  have ih0 := chars_IsToken.mono_l k
  unfold chars_IsToken.f
  repeat' first
      | (with_reducible exact ih0 _ _)
      | (with_reducible exact LeO.refl _)
      | (with_reducible exact LeO.none _)
      | (with_reducible refine LeO.ite ?_ ?_)
      | (with_reducible refine LeO.bind ?_ (fun _ => ?_))
      | exact ih0 _ _
      | exact LeO.none _
      | refine LeO.ite ?_ ?_
      | refine LeO.bind ?_ (fun _ => ?_)
set_option maxHeartbeats 8000000 in
set_option maxRecDepth 100000 in
theorem chars_IsToken.calls (k : Nat) (a0 : ByteArray) (r : Bool) (w : World) (h : chars_IsToken.f k a0 = some r) :
    Calls Tryd.prog 43 #[.string a0] w fun e w' => e = .returned (.bool r) ∧ Drawn0 w w' := by
  have H : (chars_IsToken.l0 k a0 0) = some r := h
  clear h
  have H' := Aside0.mk H
  clear H
  go_enter Tryd.func43, Tryd.ntmps43
  go_wp2
  go_loopg [3] k (fun kq v3 w' => ∃ (x3_1 : Int), v3 = .int .i64 x3_1 ∧ Aside0 (chars_IsToken.l0 kq a0 x3_1 = some r) ∧ Aside0 (kq ≤ k) ∧ Drawn0 w w')
  case atStart => exact ⟨(0), (by first | rfl | (simp; done) | (simp [*]; done) | (simp; exact isEmpty_bne _) | (simp; exact isEmpty_beq _)), H', ⟨Nat.le_refl _⟩, by repeat (first | exact Drawn0.refl _ | apply Drawn0.step)⟩
  case round =>
    clear H'
    obtain ⟨x3_1, rfl, HA, HK1, ⟨m1, rfl⟩⟩ := hrel
    cases gk with
    | zero => exact absurd HA.out (by simp [chars_IsToken.l0])
    | succ k1 =>
      have H := HA.out
      clear HA
      simp only [chars_IsToken.l0] at H
      by_cases c2 : x3_1 < (a0.size : Int)
      · rw [if_pos c2] at H
        have c2b0 : decide (x3_1 < (a0.size : Int)) = true := decide_eq_true c2
        clear c2
        by_cases c3 : 0 ≤ x3_1
        · rw [if_pos c3] at H
          have c3b0 : decide (0 ≤ x3_1) = true := decide_eq_true c3
          clear c3
          replace H := Option.bind_eq_some_iff.mp H
          obtain ⟨t44001, A50, H⟩ := H
          replace H : (if t44001 = true then (chars_IsToken.l0 k1 a0 (wrap64 (x3_1 + 1))) else (some false)) = some r := H
          have A5 := Aside0.mk A50
          clear A50
          by_cases c6 : t44001 = true
          · subst c6
            have H1 : (chars_IsToken.l0 k1 a0 (wrap64 (x3_1 + 1))) = some r := by rw [if_pos rfl] at H; exact H
            clear H
            have H := H1
            clear H1
            have H' := Aside0.mk H
            clear H
            have p4 : 0 ≤ (x3_1 : Int) := of_decide_eq_true (by first | (with_reducible assumption) | assumption)
            have q4 : x3_1 < (a0.size : Int) := of_decide_eq_true (by first | (with_reducible assumption) | assumption)
            have hx4 := bt_at a0 x3_1
            replace p4 := eq_true p4
            replace q4 := eq_true q4
            go_wp2_with (first | ((with_reducible refine gate_callee (f := 80) rfl ?_); refine goesL_ (some 13) rfl rfl Tryd.func80 (by kernel_rfl) rfl #[.int .u8 (bt a0 x3_1)] rfl (by (try simp only [List.map_toArray, List.map_cons, List.map_nil]); first | done | rfl | (simp only [List.length_drop, List.length_take]; rfl)) ?_; (with_reducible refine (chars_Token.calls (bt a0 x3_1) true _ A5.out).mono ?_); rintro e w' ⟨rfl, ⟨nd, rfl⟩⟩; refine ⟨_, rfl, ?_⟩))
            go_roundg k1
            case measure => have := HK1.out; omega
            case rel => exact ⟨(wrap64 (x3_1 + 1)), (by first | rfl | (simp; done) | (simp [*]; done) | (simp; exact isEmpty_bne _) | (simp; exact isEmpty_beq _)), H', ⟨by have := HK1.out; omega⟩, by repeat (first | exact Drawn0.refl _ | apply Drawn0.step)⟩
          · replace c6 := Bool.eq_false_iff.mpr c6
            subst c6
            have H1 : (some false) = some r := by rw [if_neg (show ¬ (false = true) by decide)] at H; exact H
            clear H
            have H := H1
            clear H1
            obtain rfl := Option.some.inj H
            have p4 : 0 ≤ (x3_1 : Int) := of_decide_eq_true (by first | (with_reducible assumption) | assumption)
            have q4 : x3_1 < (a0.size : Int) := of_decide_eq_true (by first | (with_reducible assumption) | assumption)
            have hx4 := bt_at a0 x3_1
            replace p4 := eq_true p4
            replace q4 := eq_true q4
            go_wp2_with (first | ((with_reducible refine gate_callee (f := 80) rfl ?_); refine goesL_ (some 13) rfl rfl Tryd.func80 (by kernel_rfl) rfl #[.int .u8 (bt a0 x3_1)] rfl (by (try simp only [List.map_toArray, List.map_cons, List.map_nil]); first | done | rfl | (simp only [List.length_drop, List.length_take]; rfl)) ?_; (with_reducible refine (chars_Token.calls (bt a0 x3_1) false _ A5.out).mono ?_); rintro e w' ⟨rfl, ⟨nd, rfl⟩⟩; refine ⟨_, rfl, ?_⟩))
            go_ret
            exact ⟨by first | rfl | (simp; done) | (simp [*]; done) | (simp; exact isEmpty_bne _) | (simp; exact isEmpty_beq _), by repeat (first | exact Drawn0.refl _ | apply Drawn0.step)⟩
        · rw [if_neg c3] at H
          exact absurd H (by simp)
      · rw [if_neg c2] at H
        have c2b0 : decide (x3_1 < (a0.size : Int)) = false := decide_eq_false c2
        clear c2
        obtain rfl := Option.some.inj H
        go_wp2
        go_ret
        exact ⟨by first | rfl | (simp; done) | (simp [*]; done) | (simp; exact isEmpty_bne _) | (simp; exact isEmpty_beq _), by repeat (first | exact Drawn0.refl _ | apply Drawn0.step)⟩
def chars_Visible.f (a0 : Int) : Option (Bool) := if a0 > 32 then (some (decide (a0 < 127))) else (some false)
set_option maxHeartbeats 8000000 in
set_option maxRecDepth 100000 in
theorem chars_Visible.calls (a0 : Int) (r : Bool) (w : World) (h : chars_Visible.f a0 = some r) :
    Calls Tryd.prog 45 #[.int .u8 a0] w fun e w' => e = .returned (.bool r) ∧ Drawn0 w w' := by
  have H : (if a0 > 32 then (some (decide (a0 < 127))) else (some false)) = some r := h
  clear h
  by_cases c2 : a0 > 32
  · rw [if_pos c2] at H
    have c2b0 : decide (32 < a0) = true := decide_eq_true c2
    clear c2
    obtain rfl := Option.some.inj H
    go_enter Tryd.func45, Tryd.ntmps45
    go_wp2
    go_ret
    exact ⟨by first | rfl | (simp; done) | (simp [*]; done), by repeat (first | exact Drawn0.refl _ | apply Drawn0.step)⟩
  · rw [if_neg c2] at H
    have c2b0 : decide (32 < a0) = false := decide_eq_false c2
    clear c2
    obtain rfl := Option.some.inj H
    go_enter Tryd.func45, Tryd.ntmps45
    go_wp2
    go_ret
    exact ⟨by first | rfl | (simp; done) | (simp [*]; done), by repeat (first | exact Drawn0.refl _ | apply Drawn0.step)⟩
def chars_Value.f (a0 : Int) : Option (Bool) := if a0 = 9 then (some true) else (if a0 ≥ 32 then (some (a0 != 127)) else (some false))
set_option maxHeartbeats 8000000 in
set_option maxRecDepth 100000 in
theorem chars_Value.calls (a0 : Int) (r : Bool) (w : World) (h : chars_Value.f a0 = some r) :
    Calls Tryd.prog 52 #[.int .u8 a0] w fun e w' => e = .returned (.bool r) ∧ Drawn0 w w' := by
  have H : (if a0 = 9 then (some true) else (if a0 ≥ 32 then (some (a0 != 127)) else (some false))) = some r := h
  clear h
  by_cases c2 : a0 = 9
  · rw [if_pos c2] at H
    have c2b0 : (a0 == 9) = true := beq_iff_eq.mpr c2
    have c2b1 : (a0 != 9) = false := bne_eq_false_iff_eq.mpr c2
    clear c2
    obtain rfl := Option.some.inj H
    go_enter Tryd.func52, Tryd.ntmps52
    go_wp2
    go_ret
    exact ⟨by first | rfl | (simp; done) | (simp [*]; done), by repeat (first | exact Drawn0.refl _ | apply Drawn0.step)⟩
  · rw [if_neg c2] at H
    have c2b0 : (a0 == 9) = false := beq_eq_false_iff_ne.mpr c2
    have c2b1 : (a0 != 9) = true := bne_iff_ne.mpr c2
    by_cases c3 : a0 ≥ 32
    · rw [if_pos c3] at H
      have c3b0 : decide (32 ≤ a0) = true := decide_eq_true c3
      clear c3
      obtain rfl := Option.some.inj H
      go_enter Tryd.func52, Tryd.ntmps52
      go_wp2
      go_ret
      exact ⟨by first | rfl | (simp; done) | (simp [*]; done), by repeat (first | exact Drawn0.refl _ | apply Drawn0.step)⟩
    · rw [if_neg c3] at H
      have c3b0 : decide (32 ≤ a0) = false := decide_eq_false c3
      clear c3
      obtain rfl := Option.some.inj H
      go_enter Tryd.func52, Tryd.ntmps52
      go_wp2
      go_ret
      exact ⟨by first | rfl | (simp; done) | (simp [*]; done), by repeat (first | exact Drawn0.refl _ | apply Drawn0.step)⟩
def chars_Trim.f (a0 : ByteArray) : Option (ByteArray) := (strings_Trim.f a0 (⟨#[32, 9]⟩ : ByteArray)).bind fun t82001 => (some t82001)
set_option maxHeartbeats 8000000 in
set_option maxRecDepth 100000 in
theorem chars_Trim.calls (a0 : ByteArray) (r : ByteArray) (w : World) (h : chars_Trim.f a0 = some r) :
    Calls Tryd.prog 81 #[.string a0] w fun e w' => e = .returned (.string r) ∧ Below w.heap.size w w' := by
  have HB := Aside0.mk (Below.refl w.heap.size w)
  have H : ((strings_Trim.f a0 (⟨#[32, 9]⟩ : ByteArray)).bind fun t82001 => (some t82001)) = some r := h
  clear h
  replace H := Option.bind_eq_some_iff.mp H
  obtain ⟨t82001, A20, H⟩ := H
  replace H : (some t82001) = some r := H
  have A2 := Aside0.mk A20
  clear A20
  obtain rfl := Option.some.inj H
  go_enter Tryd.func81, Tryd.ntmps81
  go_wp2_with (first | ((with_reducible refine gate_callee (f := 97) rfl ?_); refine goesL_ (some 4) rfl rfl Tryd.func97 (by kernel_rfl) rfl #[.string a0, .string (⟨#[32, 9]⟩ : ByteArray)] rfl (by (try simp only [List.map_toArray, List.map_cons, List.map_nil]); first | done | rfl | (simp only [List.length_drop, List.length_take]; rfl)) ?_; (with_reducible refine (strings_Trim.calls a0 (⟨#[32, 9]⟩ : ByteArray) t82001 _ A2.out).mono ?_); rintro e w3 ⟨rfl, hb⟩; refine ⟨_, rfl, ?_⟩; have n0_ := Aside0.mk (below_step (by repeat (first | (with_reducible first | exact HB.out | apply below_alloc | apply pw_below_drewN | apply below_drew1) | exact HB.out)) hb); clear HB; have HB := n0_; clear n0_; (try clear hb); (try clear hb2); (try clear hk); (try clear hi)))
  go_ret
  exact ⟨by first | rfl | (simp [errW_none, errW_some] <;> rfl) | (simp [*, errW_none, errW_some] <;> rfl), by repeat (first | (with_reducible first | exact HB.out | apply below_alloc | apply pw_below_drewN | apply below_drew1) | exact HB.out)⟩
def chars_Hex.j0 : Nat → Int → Bool → Option (Int × Bool)
  | 0, _, _ => none
  | k + 1, x0, x10 => if x10 = true then (some (((x0 - 97) % 256) + 10, true)) else (if x0 ≥ 65 then (if x0 ≤ 70 then (some (((x0 - 65) % 256) + 10, true)) else (some (0, false))) else (some (0, false)))
def chars_Hex.f (k : Nat) (a0 : Int) : Option (Int × Bool) := (chars_Digit.f a0).bind fun t151001 => (if t151001 = true then (some ((a0 - 48) % 256, true)) else (if a0 ≥ 97 then (chars_Hex.j0 k a0 (decide (a0 ≤ 102))) else (chars_Hex.j0 k a0 false)))
theorem chars_Hex.mono_l : ∀ k, (∀ y0 y1, LeO (chars_Hex.j0 k y0 y1) (chars_Hex.j0 (k + 1) y0 y1))
  | 0 => fun _ _ r h => by simp [chars_Hex.j0] at h
  | k + 1 => by
    have ih0 := chars_Hex.mono_l k
    · intro y0 y1
      unfold chars_Hex.j0
      repeat' first
      | (with_reducible exact ih0 _ _)
      | (with_reducible exact LeO.refl _)
      | (with_reducible exact LeO.none _)
      | (with_reducible refine LeO.ite ?_ ?_)
      | (with_reducible refine LeO.bind ?_ (fun _ => ?_))
      | exact ih0 _ _
      | exact LeO.none _
      | refine LeO.ite ?_ ?_
      | refine LeO.bind ?_ (fun _ => ?_)
theorem chars_Hex.mono : ∀ a0 k, LeO (chars_Hex.f k a0) (chars_Hex.f (k + 1) a0) := by
  intro a0 k
  have ih0 := chars_Hex.mono_l k
  unfold chars_Hex.f
  repeat' first
      | (with_reducible exact ih0 _ _)
      | (with_reducible exact LeO.refl _)
      | (with_reducible exact LeO.none _)
      | (with_reducible refine LeO.ite ?_ ?_)
      | (with_reducible refine LeO.bind ?_ (fun _ => ?_))
      | exact ih0 _ _
      | exact LeO.none _
      | refine LeO.ite ?_ ?_
      | refine LeO.bind ?_ (fun _ => ?_)
set_option maxHeartbeats 8000000 in
set_option maxRecDepth 100000 in
theorem chars_Hex.calls (k : Nat) (a0 : Int) (r1 : Int) (r2 : Bool) (w : World) (h : chars_Hex.f k a0 = some (r1, r2)) :
    Calls Tryd.prog 150 #[.int .u8 a0] w fun e w' => e = .returned (.tuple #[.int .i64 r1, .bool r2]) ∧ Drawn0 w w' := by
  have H : ((chars_Digit.f a0).bind fun t151001 => (if t151001 = true then (some ((a0 - 48) % 256, true)) else (if a0 ≥ 97 then (chars_Hex.j0 k a0 (decide (a0 ≤ 102))) else (chars_Hex.j0 k a0 false)))) = some (r1, r2) := h
  clear h
  replace H := Option.bind_eq_some_iff.mp H
  obtain ⟨t151001, A20, H⟩ := H
  replace H : (if t151001 = true then (some ((a0 - 48) % 256, true)) else (if a0 ≥ 97 then (chars_Hex.j0 k a0 (decide (a0 ≤ 102))) else (chars_Hex.j0 k a0 false))) = some (r1, r2) := H
  have A2 := Aside0.mk A20
  clear A20
  by_cases c3 : t151001 = true
  · subst c3
    have H1 : (some ((a0 - 48) % 256, true)) = some (r1, r2) := by rw [if_pos rfl] at H; exact H
    clear H
    have H := H1
    clear H1
    simp only [Option.some.injEq, Prod.mk.injEq] at H
    obtain ⟨rfl, rfl⟩ := H
    go_enter Tryd.func150, Tryd.ntmps150
    go_wp2_with (first | ((with_reducible refine gate_callee (f := 94) rfl ?_); refine goesL_ (some 6) rfl rfl Tryd.func94 (by kernel_rfl) rfl #[.int .u8 a0] rfl (by (try simp only [List.map_toArray, List.map_cons, List.map_nil]); first | done | rfl | (simp only [List.length_drop, List.length_take]; rfl)) ?_; (with_reducible refine (chars_Digit.calls a0 true _ A2.out).mono ?_); rintro e w' ⟨rfl, ⟨nd, rfl⟩⟩; refine ⟨_, rfl, ?_⟩))
    go_ret2
    exact ⟨by first | rfl | (simp; done) | (simp [*]; done), by repeat (first | exact Drawn0.refl _ | apply Drawn0.step)⟩
  · replace c3 := Bool.eq_false_iff.mpr c3
    subst c3
    have H1 : (if a0 ≥ 97 then (chars_Hex.j0 k a0 (decide (a0 ≤ 102))) else (chars_Hex.j0 k a0 false)) = some (r1, r2) := by rw [if_neg (show ¬ (false = true) by decide)] at H; exact H
    clear H
    have H := H1
    clear H1
    have HC4 := Aside0.mk H
    clear H
    go_enter Tryd.func150, Tryd.ntmps150
    go_upto_region 3 with (first | ((with_reducible refine gate_callee (f := 94) rfl ?_); refine goesL_ (some 6) rfl rfl Tryd.func94 (by kernel_rfl) rfl #[.int .u8 a0] rfl (by (try simp only [List.map_toArray, List.map_cons, List.map_nil]); first | done | rfl | (simp only [List.length_drop, List.length_take]; rfl)) ?_; (with_reducible refine (chars_Digit.calls a0 false _ A2.out).mono ?_); rintro e w' ⟨rfl, ⟨nd, rfl⟩⟩; refine ⟨_, rfl, ?_⟩))
    (try simp only [Act.put, List.setIfInBounds_toArray, List.set_cons_zero, List.set_cons_succ])
    go_cut [10] (fun v10 wc => ∃ (kq : Nat) (x10_3 : Bool), v10 = .bool x10_3 ∧ Aside0 (chars_Hex.j0 kq a0 x10_3 = some (r1, r2)) ∧ Aside0 (kq ≤ k) ∧ Drawn0 w wc)
    case first =>
      have H := HC4.out
      clear HC4
      by_cases c5 : a0 ≥ 97
      · rw [if_pos c5] at H
        have c5b0 : decide (97 ≤ a0) = true := decide_eq_true c5
        clear c5
        (first | rw [c5b0] | (simp only [i64_w, i32_w]; rw [c5b0]) | skip)
        have H' := Aside0.mk H
        clear H
        go_wp2
        go_meet
        case rel => exact ⟨_, (decide (a0 ≤ 102)), (by first | rfl | (simp; done) | (simp [*]; done)), H', ⟨by first | omega | exact Nat.le_refl _⟩, by repeat (first | exact Drawn0.refl _ | apply Drawn0.step)⟩
      · rw [if_neg c5] at H
        have c5b0 : decide (97 ≤ a0) = false := decide_eq_false c5
        clear c5
        (first | rw [c5b0] | (simp only [i64_w, i32_w]; rw [c5b0]) | skip)
        have H' := Aside0.mk H
        clear H
        go_wp2
        go_meet
        case rel => exact ⟨_, (false), (by first | rfl | (simp; done) | (simp [*]; done)), H', ⟨by first | omega | exact Nat.le_refl _⟩, by repeat (first | exact Drawn0.refl _ | apply Drawn0.step)⟩
    case rest =>
      clear HC4
      try clear c1
      try clear p2
      try clear c3
      try clear c5
      try clear c5b0
      obtain ⟨kq, x10_3, rfl, HA, HJ3, ⟨mc3, rfl⟩⟩ := hcut
      cases kq with
      | zero => exact absurd HA.out (by simp [chars_Hex.j0])
      | succ kj3 =>
        have H := HA.out
        clear HA
        simp only [chars_Hex.j0] at H
        by_cases c6 : x10_3 = true
        · subst c6
          have H1 : (some (((a0 - 97) % 256) + 10, true)) = some (r1, r2) := by rw [if_pos rfl] at H; exact H
          clear H
          have H := H1
          clear H1
          simp only [Option.some.injEq, Prod.mk.injEq] at H
          obtain ⟨rfl, rfl⟩ := H
          go_wp2
          go_ret2
          exact ⟨by first | rfl | (simp; done) | (simp [*]; done), by repeat (first | exact Drawn0.refl _ | apply Drawn0.step)⟩
        · replace c6 := Bool.eq_false_iff.mpr c6
          subst c6
          have H1 : (if a0 ≥ 65 then (if a0 ≤ 70 then (some (((a0 - 65) % 256) + 10, true)) else (some (0, false))) else (some (0, false))) = some (r1, r2) := by rw [if_neg (show ¬ (false = true) by decide)] at H; exact H
          clear H
          have H := H1
          clear H1
          by_cases c7 : a0 ≥ 65
          · rw [if_pos c7] at H
            have c7b0 : decide (65 ≤ a0) = true := decide_eq_true c7
            clear c7
            by_cases c8 : a0 ≤ 70
            · rw [if_pos c8] at H
              have c8b0 : decide (a0 ≤ 70) = true := decide_eq_true c8
              clear c8
              simp only [Option.some.injEq, Prod.mk.injEq] at H
              obtain ⟨rfl, rfl⟩ := H
              go_wp2
              go_ret2
              exact ⟨by first | rfl | (simp; done) | (simp [*]; done), by repeat (first | exact Drawn0.refl _ | apply Drawn0.step)⟩
            · rw [if_neg c8] at H
              have c8b0 : decide (a0 ≤ 70) = false := decide_eq_false c8
              clear c8
              simp only [Option.some.injEq, Prod.mk.injEq] at H
              obtain ⟨rfl, rfl⟩ := H
              go_wp2
              go_ret2
              exact ⟨by first | rfl | (simp; done) | (simp [*]; done), by repeat (first | exact Drawn0.refl _ | apply Drawn0.step)⟩
          · rw [if_neg c7] at H
            have c7b0 : decide (65 ≤ a0) = false := decide_eq_false c7
            clear c7
            simp only [Option.some.injEq, Prod.mk.injEq] at H
            obtain ⟨rfl, rfl⟩ := H
            go_wp2
            go_ret2
            exact ⟨by first | rfl | (simp; done) | (simp [*]; done), by repeat (first | exact Drawn0.refl _ | apply Drawn0.step)⟩
mutual
def chars_number.l0 : Nat → ByteArray → Int → Int → Int → Bool → Int → Option (Int × Option Int)
  | 0, _, _, _, _, _, _ => none
  | k + 1, x0, x1, x2, x8, x9, x10 => if x10 < (x0.size : Int) then (if 0 ≤ x10 then ((chars_Hex.f k (bt x0 x10)).bind fun bt148001 => (if bt148001.2 = true then (chars_number.j1 k x0 x1 x2 x8 x9 x10 bt148001.1 (decide (bt148001.1 ≥ x1))) else (chars_number.j1 k x0 x1 x2 x8 x9 x10 bt148001.1 true))) else (none)) else (if x0.toList = ([] : List UInt8) then (some (0, some 3)) else (if x9 = true then (some (0, some 4)) else (some (x8, none))))
def chars_number.j1 : Nat → ByteArray → Int → Int → Int → Bool → Int → Int → Bool → Option (Int × Option Int)
  | 0, _, _, _, _, _, _, _, _ => none
  | k + 1, x0, x1, x2, x8, x9, x10, x11, x37 => if x37 = true then (some (0, some 3)) else (if x9 = true then (chars_number.l0 k x0 x1 x2 x8 true (wrap64 (x10 + 1))) else (if x1 = 0 then (none) else (if x8 > (wrap64 (Int.tdiv (wrap64 (x2 - x11)) x1)) then (chars_number.l0 k x0 x1 x2 x8 true (wrap64 (x10 + 1))) else (if x2 < x11 then (chars_number.l0 k x0 x1 x2 x8 true (wrap64 (x10 + 1))) else (chars_number.l0 k x0 x1 x2 (wrap64 ((wrap64 (x8 * x1)) + x11)) x9 (wrap64 (x10 + 1)))))))
end
def chars_number.f (k : Nat) (a0 : ByteArray) (a1 : Int) (a2 : Int) : Option (Int × Option Int) := if a2 < 0 then (some (0, some 1)) else (chars_number.l0 k a0 a1 a2 0 (a0.toList == ([] : List UInt8)) 0)
theorem chars_number.mono_l : ∀ k, (∀ y0 y1 y2 y3 y4 y5, LeO (chars_number.l0 k y0 y1 y2 y3 y4 y5) (chars_number.l0 (k + 1) y0 y1 y2 y3 y4 y5)) ∧ (∀ y0 y1 y2 y3 y4 y5 y6 y7, LeO (chars_number.j1 k y0 y1 y2 y3 y4 y5 y6 y7) (chars_number.j1 (k + 1) y0 y1 y2 y3 y4 y5 y6 y7))
  | 0 => ⟨fun _ _ _ _ _ _ r h => by simp [chars_number.l0] at h, fun _ _ _ _ _ _ _ _ r h => by simp [chars_number.j1] at h⟩
  | k + 1 => by
    obtain ⟨ih0, ih1⟩ := chars_number.mono_l k
    refine ⟨?_, ?_⟩
    · intro y0 y1 y2 y3 y4 y5
      unfold chars_number.l0
      repeat' first
      | (with_reducible exact ih0 _ _ _ _ _ _)
      | (with_reducible exact ih1 _ _ _ _ _ _ _ _)
      | (with_reducible exact chars_Hex.mono _ _)
      | (with_reducible exact LeO.refl _)
      | (with_reducible exact LeO.none _)
      | (with_reducible refine LeO.ite ?_ ?_)
      | (with_reducible refine LeO.bind ?_ (fun _ => ?_))
      | exact ih0 _ _ _ _ _ _
      | exact ih1 _ _ _ _ _ _ _ _
      | exact chars_Hex.mono _ _
      | exact LeO.none _
      | refine LeO.ite ?_ ?_
      | refine LeO.bind ?_ (fun _ => ?_)
    · intro y0 y1 y2 y3 y4 y5 y6 y7
      unfold chars_number.j1
      repeat' first
      | (with_reducible exact ih0 _ _ _ _ _ _)
      | (with_reducible exact ih1 _ _ _ _ _ _ _ _)
      | (with_reducible exact chars_Hex.mono _ _)
      | (with_reducible exact LeO.refl _)
      | (with_reducible exact LeO.none _)
      | (with_reducible refine LeO.ite ?_ ?_)
      | (with_reducible refine LeO.bind ?_ (fun _ => ?_))
      | exact ih0 _ _ _ _ _ _
      | exact ih1 _ _ _ _ _ _ _ _
      | exact chars_Hex.mono _ _
      | exact LeO.none _
      | refine LeO.ite ?_ ?_
      | refine LeO.bind ?_ (fun _ => ?_)
theorem chars_number.mono : ∀ a0 a1 a2 k, LeO (chars_number.f k a0 a1 a2) (chars_number.f (k + 1) a0 a1 a2) := by
  intro a0 a1 a2 k
  obtain ⟨ih0, ih1⟩ := chars_number.mono_l k
  unfold chars_number.f
  repeat' first
      | (with_reducible exact ih0 _ _ _ _ _ _)
      | (with_reducible exact ih1 _ _ _ _ _ _ _ _)
      | (with_reducible exact chars_Hex.mono _ _)
      | (with_reducible exact LeO.refl _)
      | (with_reducible exact LeO.none _)
      | (with_reducible refine LeO.ite ?_ ?_)
      | (with_reducible refine LeO.bind ?_ (fun _ => ?_))
      | exact ih0 _ _ _ _ _ _
      | exact ih1 _ _ _ _ _ _ _ _
      | exact chars_Hex.mono _ _
      | exact LeO.none _
      | refine LeO.ite ?_ ?_
      | refine LeO.bind ?_ (fun _ => ?_)
set_option maxHeartbeats 8000000 in
set_option maxRecDepth 100000 in
theorem chars_number.calls (k : Nat) (a0 : ByteArray) (a1 : Int) (a2 : Int) (r1 : Int) (r2 : Option Int) (w : World) (h : chars_number.f k a0 a1 a2 = some (r1, r2)) :
    Calls Tryd.prog 147 #[.string a0, .int .i64 a1, .int .i64 a2] w fun e w' => e = .returned (.tuple #[.int .i64 r1, errW r2]) ∧ Drawn0 w w' := by
  have hu27 := Tryd.underlying27
  have hu68 := Tryd.underlying68
  have H : (if a2 < 0 then (some (0, some 1)) else (chars_number.l0 k a0 a1 a2 0 (a0.toList == ([] : List UInt8)) 0)) = some (r1, r2) := h
  clear h
  by_cases c4 : a2 < 0
  · rw [if_pos c4] at H
    have c4b0 : decide (a2 < 0) = true := decide_eq_true c4
    clear c4
    simp only [Option.some.injEq, Prod.mk.injEq] at H
    obtain ⟨rfl, rfl⟩ := H
    go_enter Tryd.func147, Tryd.ntmps147
    go_wp2
    go_ret2
    exact ⟨by first | rfl | (simp; done) | (simp [*]; done) | (simp; exact isEmpty_bne _) | (simp; exact isEmpty_beq _), by repeat (first | exact Drawn0.refl _ | apply Drawn0.step)⟩
  · rw [if_neg c4] at H
    have c4b0 : decide (a2 < 0) = false := decide_eq_false c4
    clear c4
    have H' := Aside0.mk H
    clear H
    go_enter Tryd.func147, Tryd.ntmps147
    go_wp2
    go_loopg [8, 9, 10] k (fun kq v8 v9 v10 w' => ∃ (x8_1 : Int) (x9_1 : Bool) (x10_1 : Int), v8 = .int .i64 x8_1 ∧ v9 = .bool x9_1 ∧ v10 = .int .i64 x10_1 ∧ Aside0 (chars_number.l0 kq a0 a1 a2 x8_1 x9_1 x10_1 = some (r1, r2)) ∧ Aside0 (kq ≤ k) ∧ Drawn0 w w')
    case atStart => exact ⟨(0), ((a0.toList == ([] : List UInt8))), (0), (by first | rfl | (simp; done) | (simp [*]; done) | (simp; exact isEmpty_bne _) | (simp; exact isEmpty_beq _)), (by first | rfl | (simp; done) | (simp [*]; done) | (simp; exact isEmpty_bne _) | (simp; exact isEmpty_beq _)), (by first | rfl | (simp; done) | (simp [*]; done) | (simp; exact isEmpty_bne _) | (simp; exact isEmpty_beq _)), H', ⟨Nat.le_refl _⟩, by repeat (first | exact Drawn0.refl _ | apply Drawn0.step)⟩
    case round =>
      clear H'
      try clear c1
      try clear p2
      try clear c4
      try clear c4b0
      obtain ⟨x8_1, x9_1, x10_1, rfl, rfl, rfl, HA, HK1, ⟨m1, rfl⟩⟩ := hrel
      cases gk with
      | zero => exact absurd HA.out (by simp [chars_number.l0])
      | succ k1 =>
        have H := HA.out
        clear HA
        simp only [chars_number.l0] at H
        by_cases c5 : x10_1 < (a0.size : Int)
        · rw [if_pos c5] at H
          have c5b0 : decide (x10_1 < (a0.size : Int)) = true := decide_eq_true c5
          clear c5
          by_cases c6 : 0 ≤ x10_1
          · rw [if_pos c6] at H
            have c6b0 : decide (0 ≤ x10_1) = true := decide_eq_true c6
            clear c6
            replace H := Option.bind_eq_some_iff.mp H
            obtain ⟨⟨t148001, t148002⟩, A80, H⟩ := H
            replace H : (if t148002 = true then (chars_number.j1 k1 a0 a1 a2 x8_1 x9_1 x10_1 t148001 (decide (t148001 ≥ a1))) else (chars_number.j1 k1 a0 a1 a2 x8_1 x9_1 x10_1 t148001 true)) = some (r1, r2) := H
            have A8 := Aside0.mk A80
            clear A80
            have HC9 := Aside0.mk H
            clear H
            have p7 : 0 ≤ (x10_1 : Int) := of_decide_eq_true (by first | (with_reducible assumption) | assumption)
            have q7 : x10_1 < (a0.size : Int) := of_decide_eq_true (by first | (with_reducible assumption) | assumption)
            have hx7 := bt_at a0 x10_1
            replace p7 := eq_true p7
            replace q7 := eq_true q7
            go_upto_region 8 with (first | ((with_reducible refine gate_callee (f := 150) rfl ?_); refine goesL_ (some 28) rfl rfl Tryd.func150 (by kernel_rfl) rfl #[.int .u8 (bt a0 x10_1)] rfl (by (try simp only [List.map_toArray, List.map_cons, List.map_nil]); first | done | rfl | (simp only [List.length_drop, List.length_take]; rfl)) ?_; (with_reducible refine (chars_Hex.calls k1 (bt a0 x10_1) t148001 t148002 _ A8.out).mono ?_); rintro e w' ⟨rfl, ⟨nd, rfl⟩⟩; refine ⟨_, rfl, ?_⟩))
            (try simp only [Act.put, List.setIfInBounds_toArray, List.set_cons_zero, List.set_cons_succ])
            go_cut [37] (fun v37 wc => ∃ (kq : Nat) (x37_8 : Bool), v37 = .bool x37_8 ∧ Aside0 (chars_number.j1 kq a0 a1 a2 x8_1 x9_1 x10_1 t148001 x37_8 = some (r1, r2)) ∧ Aside0 (kq ≤ k1) ∧ Drawn0 w wc)
            case first =>
              have H := HC9.out
              clear HC9
              by_cases c10 : t148002 = true
              · subst c10
                have H1 : (chars_number.j1 k1 a0 a1 a2 x8_1 x9_1 x10_1 t148001 (decide (t148001 ≥ a1))) = some (r1, r2) := by rw [if_pos rfl] at H; exact H
                clear H
                have H := H1
                clear H1
                have H' := Aside0.mk H
                clear H
                go_wp2
                go_meet
                case rel => exact ⟨_, (decide (t148001 ≥ a1)), (by first | rfl | (simp; done) | (simp [*]; done) | (simp; exact isEmpty_bne _) | (simp; exact isEmpty_beq _)), H', ⟨by have := HK1.out; first | omega | exact Nat.le_refl _⟩, by repeat (first | exact Drawn0.refl _ | apply Drawn0.step)⟩
              · replace c10 := Bool.eq_false_iff.mpr c10
                subst c10
                have H1 : (chars_number.j1 k1 a0 a1 a2 x8_1 x9_1 x10_1 t148001 true) = some (r1, r2) := by rw [if_neg (show ¬ (false = true) by decide)] at H; exact H
                clear H
                have H := H1
                clear H1
                have H' := Aside0.mk H
                clear H
                go_wp2
                go_meet
                case rel => exact ⟨_, (true), (by first | rfl | (simp; done) | (simp [*]; done) | (simp; exact isEmpty_bne _) | (simp; exact isEmpty_beq _)), H', ⟨by have := HK1.out; first | omega | exact Nat.le_refl _⟩, by repeat (first | exact Drawn0.refl _ | apply Drawn0.step)⟩
            case rest =>
              clear HC9
              try clear c1
              try clear p2
              try clear c4
              try clear c4b0
              try clear c5
              try clear c5b0
              try clear c6
              try clear c6b0
              try clear p7
              try clear q7
              try clear hx7
              try clear c10
              try clear p2
              try clear p7
              try clear q7
              obtain ⟨kq, x37_8, rfl, HA, HJ8, ⟨mc8, rfl⟩⟩ := hcut
              cases kq with
              | zero => exact absurd HA.out (by simp [chars_number.j1])
              | succ kj8 =>
                have H := HA.out
                clear HA
                simp only [chars_number.j1] at H
                by_cases c11 : x37_8 = true
                · subst c11
                  have H1 : (some (0, some 3)) = some (r1, r2) := by rw [if_pos rfl] at H; exact H
                  clear H
                  have H := H1
                  clear H1
                  simp only [Option.some.injEq, Prod.mk.injEq] at H
                  obtain ⟨rfl, rfl⟩ := H
                  go_wp2
                  go_ret2
                  exact ⟨by first | rfl | (simp; done) | (simp [*]; done) | (simp; exact isEmpty_bne _) | (simp; exact isEmpty_beq _), by repeat (first | exact Drawn0.refl _ | apply Drawn0.step)⟩
                · replace c11 := Bool.eq_false_iff.mpr c11
                  subst c11
                  have H1 : (if x9_1 = true then (chars_number.l0 kj8 a0 a1 a2 x8_1 true (wrap64 (x10_1 + 1))) else (if a1 = 0 then (none) else (if x8_1 > (wrap64 (Int.tdiv (wrap64 (a2 - t148001)) a1)) then (chars_number.l0 kj8 a0 a1 a2 x8_1 true (wrap64 (x10_1 + 1))) else (if a2 < t148001 then (chars_number.l0 kj8 a0 a1 a2 x8_1 true (wrap64 (x10_1 + 1))) else (chars_number.l0 kj8 a0 a1 a2 (wrap64 ((wrap64 (x8_1 * a1)) + t148001)) x9_1 (wrap64 (x10_1 + 1))))))) = some (r1, r2) := by rw [if_neg (show ¬ (false = true) by decide)] at H; exact H
                  clear H
                  have H := H1
                  clear H1
                  by_cases c12 : x9_1 = true
                  · subst c12
                    have H1 : (chars_number.l0 kj8 a0 a1 a2 x8_1 true (wrap64 (x10_1 + 1))) = some (r1, r2) := by rw [if_pos rfl] at H; exact H
                    clear H
                    have H := H1
                    clear H1
                    have H' := Aside0.mk H
                    clear H
                    go_wp2
                    go_roundg kj8
                    case measure => have := HK1.out; have := HJ8.out; omega
                    case rel => exact ⟨(x8_1), (true), (wrap64 (x10_1 + 1)), (by first | rfl | (simp; done) | (simp [*]; done) | (simp; exact isEmpty_bne _) | (simp; exact isEmpty_beq _)), (by first | rfl | (simp; done) | (simp [*]; done) | (simp; exact isEmpty_bne _) | (simp; exact isEmpty_beq _)), (by first | rfl | (simp; done) | (simp [*]; done) | (simp; exact isEmpty_bne _) | (simp; exact isEmpty_beq _)), H', ⟨by have := HK1.out; have := HJ8.out; omega⟩, by repeat (first | exact Drawn0.refl _ | apply Drawn0.step)⟩
                  · replace c12 := Bool.eq_false_iff.mpr c12
                    subst c12
                    have H1 : (if a1 = 0 then (none) else (if x8_1 > (wrap64 (Int.tdiv (wrap64 (a2 - t148001)) a1)) then (chars_number.l0 kj8 a0 a1 a2 x8_1 true (wrap64 (x10_1 + 1))) else (if a2 < t148001 then (chars_number.l0 kj8 a0 a1 a2 x8_1 true (wrap64 (x10_1 + 1))) else (chars_number.l0 kj8 a0 a1 a2 (wrap64 ((wrap64 (x8_1 * a1)) + t148001)) false (wrap64 (x10_1 + 1)))))) = some (r1, r2) := by rw [if_neg (show ¬ (false = true) by decide)] at H; exact H
                    clear H
                    have H := H1
                    clear H1
                    by_cases c13 : a1 = 0
                    · rw [if_pos c13] at H
                      exact absurd H (by simp)
                    · rw [if_neg c13] at H
                      have c13b0 : (a1 == 0) = false := beq_eq_false_iff_ne.mpr c13
                      have c13b1 : (a1 != 0) = true := bne_iff_ne.mpr c13
                      by_cases c14 : x8_1 > (wrap64 (Int.tdiv (wrap64 (a2 - t148001)) a1))
                      · rw [if_pos c14] at H
                        have c14b0 : decide ((wrap64 (Int.tdiv (wrap64 (a2 - t148001)) a1)) < x8_1) = true := decide_eq_true c14
                        clear c14
                        have H' := Aside0.mk H
                        clear H
                        go_wp2
                        go_roundg kj8
                        case measure => have := HK1.out; have := HJ8.out; omega
                        case rel => exact ⟨(x8_1), (true), (wrap64 (x10_1 + 1)), (by first | rfl | (simp; done) | (simp [*]; done) | (simp; exact isEmpty_bne _) | (simp; exact isEmpty_beq _)), (by first | rfl | (simp; done) | (simp [*]; done) | (simp; exact isEmpty_bne _) | (simp; exact isEmpty_beq _)), (by first | rfl | (simp; done) | (simp [*]; done) | (simp; exact isEmpty_bne _) | (simp; exact isEmpty_beq _)), H', ⟨by have := HK1.out; have := HJ8.out; omega⟩, by repeat (first | exact Drawn0.refl _ | apply Drawn0.step)⟩
                      · rw [if_neg c14] at H
                        have c14b0 : decide ((wrap64 (Int.tdiv (wrap64 (a2 - t148001)) a1)) < x8_1) = false := decide_eq_false c14
                        clear c14
                        by_cases c15 : a2 < t148001
                        · rw [if_pos c15] at H
                          have c15b0 : decide (a2 < t148001) = true := decide_eq_true c15
                          clear c15
                          have H' := Aside0.mk H
                          clear H
                          go_wp2
                          go_roundg kj8
                          case measure => have := HK1.out; have := HJ8.out; omega
                          case rel => exact ⟨(x8_1), (true), (wrap64 (x10_1 + 1)), (by first | rfl | (simp; done) | (simp [*]; done) | (simp; exact isEmpty_bne _) | (simp; exact isEmpty_beq _)), (by first | rfl | (simp; done) | (simp [*]; done) | (simp; exact isEmpty_bne _) | (simp; exact isEmpty_beq _)), (by first | rfl | (simp; done) | (simp [*]; done) | (simp; exact isEmpty_bne _) | (simp; exact isEmpty_beq _)), H', ⟨by have := HK1.out; have := HJ8.out; omega⟩, by repeat (first | exact Drawn0.refl _ | apply Drawn0.step)⟩
                        · rw [if_neg c15] at H
                          have c15b0 : decide (a2 < t148001) = false := decide_eq_false c15
                          clear c15
                          have H' := Aside0.mk H
                          clear H
                          go_wp2
                          go_roundg kj8
                          case measure => have := HK1.out; have := HJ8.out; omega
                          case rel => exact ⟨(wrap64 ((wrap64 (x8_1 * a1)) + t148001)), (false), (wrap64 (x10_1 + 1)), (by first | rfl | (simp; done) | (simp [*]; done) | (simp; exact isEmpty_bne _) | (simp; exact isEmpty_beq _)), (by first | rfl | (simp; done) | (simp [*]; done) | (simp; exact isEmpty_bne _) | (simp; exact isEmpty_beq _)), (by first | rfl | (simp; done) | (simp [*]; done) | (simp; exact isEmpty_bne _) | (simp; exact isEmpty_beq _)), H', ⟨by have := HK1.out; have := HJ8.out; omega⟩, by repeat (first | exact Drawn0.refl _ | apply Drawn0.step)⟩
          · rw [if_neg c6] at H
            exact absurd H (by simp)
        · rw [if_neg c5] at H
          have c5b0 : decide (x10_1 < (a0.size : Int)) = false := decide_eq_false c5
          clear c5
          by_cases c16 : a0.toList = ([] : List UInt8)
          · rw [if_pos c16] at H
            have c16b0 : (a0.toList == ([] : List UInt8)) = true := beq_iff_eq.mpr c16
            have c16b1 : (a0.toList != ([] : List UInt8)) = false := bne_eq_false_iff_eq.mpr c16
            clear c16
            simp only [Option.some.injEq, Prod.mk.injEq] at H
            obtain ⟨rfl, rfl⟩ := H
            go_wp2
            go_ret2
            exact ⟨by first | rfl | (simp; done) | (simp [*]; done) | (simp; exact isEmpty_bne _) | (simp; exact isEmpty_beq _), by repeat (first | exact Drawn0.refl _ | apply Drawn0.step)⟩
          · rw [if_neg c16] at H
            have c16b0 : (a0.toList == ([] : List UInt8)) = false := beq_eq_false_iff_ne.mpr c16
            have c16b1 : (a0.toList != ([] : List UInt8)) = true := bne_iff_ne.mpr c16
            by_cases c17 : x9_1 = true
            · subst c17
              have H1 : (some (0, some 4)) = some (r1, r2) := by rw [if_pos rfl] at H; exact H
              clear H
              have H := H1
              clear H1
              simp only [Option.some.injEq, Prod.mk.injEq] at H
              obtain ⟨rfl, rfl⟩ := H
              go_wp2
              go_ret2
              exact ⟨by first | rfl | (simp; done) | (simp [*]; done) | (simp; exact isEmpty_bne _) | (simp; exact isEmpty_beq _), by repeat (first | exact Drawn0.refl _ | apply Drawn0.step)⟩
            · replace c17 := Bool.eq_false_iff.mpr c17
              subst c17
              have H1 : (some (x8_1, none)) = some (r1, r2) := by rw [if_neg (show ¬ (false = true) by decide)] at H; exact H
              clear H
              have H := H1
              clear H1
              simp only [Option.some.injEq, Prod.mk.injEq] at H
              obtain ⟨rfl, rfl⟩ := H
              go_wp2
              go_ret2
              exact ⟨by first | rfl | (simp; done) | (simp [*]; done) | (simp; exact isEmpty_bne _) | (simp; exact isEmpty_beq _), by repeat (first | exact Drawn0.refl _ | apply Drawn0.step)⟩
def chars_Decimal.f (k : Nat) (a0 : ByteArray) (a1 : Int) : Option (Int × Option Int) := (chars_number.f k a0 10 a1).bind fun bt139001 => (some (bt139001.1, bt139001.2))
theorem chars_Decimal.mono : ∀ a0 a1 k, LeO (chars_Decimal.f k a0 a1) (chars_Decimal.f (k + 1) a0 a1) := by
  intro a0 a1 k
  unfold chars_Decimal.f
  repeat' first
      | (with_reducible exact chars_number.mono _ _ _ _)
      | (with_reducible exact LeO.refl _)
      | (with_reducible exact LeO.none _)
      | (with_reducible refine LeO.ite ?_ ?_)
      | (with_reducible refine LeO.bind ?_ (fun _ => ?_))
      | exact chars_number.mono _ _ _ _
      | exact LeO.none _
      | refine LeO.ite ?_ ?_
      | refine LeO.bind ?_ (fun _ => ?_)
set_option maxHeartbeats 8000000 in
set_option maxRecDepth 100000 in
theorem chars_Decimal.calls (k : Nat) (a0 : ByteArray) (a1 : Int) (r1 : Int) (r2 : Option Int) (w : World) (h : chars_Decimal.f k a0 a1 = some (r1, r2)) :
    Calls Tryd.prog 138 #[.string a0, .int .i64 a1] w fun e w' => e = .returned (.tuple #[.int .i64 r1, errW r2]) ∧ Drawn0 w w' := by
  have H : ((chars_number.f k a0 10 a1).bind fun bt139001 => (some (bt139001.1, bt139001.2))) = some (r1, r2) := h
  clear h
  replace H := Option.bind_eq_some_iff.mp H
  obtain ⟨⟨t139001, t139002⟩, A30, H⟩ := H
  replace H : (some (t139001, t139002)) = some (r1, r2) := H
  have A3 := Aside0.mk A30
  clear A30
  simp only [Option.some.injEq, Prod.mk.injEq] at H
  obtain ⟨rfl, rfl⟩ := H
  go_enter Tryd.func138, Tryd.ntmps138
  go_wp2_with (first | ((with_reducible refine gate_callee (f := 147) rfl ?_); refine goesL_ (some 8) rfl rfl Tryd.func147 (by kernel_rfl) rfl #[.string a0, .int .i64 10, .int .i64 a1] rfl (by (try simp only [List.map_toArray, List.map_cons, List.map_nil]); first | done | rfl | (simp only [List.length_drop, List.length_take]; rfl)) ?_; (with_reducible refine (chars_number.calls k a0 10 a1 t139001 t139002 _ A3.out).mono ?_); rintro e w' ⟨rfl, ⟨nd, rfl⟩⟩; refine ⟨_, rfl, ?_⟩; (try simp only [errW_none, errW_some])))
  go_ret2
  exact ⟨by first | rfl | (simp; done) | (simp [*]; done), by repeat (first | exact Drawn0.refl _ | apply Drawn0.step)⟩
end Go.Proofs.YtdmbgbennlnpcaaDoor.Hd
namespace Go.Proofs.YtdmbgbennlnpcaaDoor.Hd
open Go.RowKit Go.Proofs.YtdmbgbennlnpcaaDoorW.PrintWords Go.Proofs.YtdmbgbennlnpcaaDoorW.PrintLast Go.Proofs.YtdmbgbennlnpcaaDoorW.PrintMore
set_option linter.unusedVariables false
set_option linter.unusedSimpArgs false
def isTok (c : Int) : Bool := (decide (48 ≤ c) && decide (c ≤ 57)) || (decide (97 ≤ c) && decide (c ≤ 122)) || (decide (65 ≤ c) && decide (c ≤ 90)) || [33, 35, 36, 37, 38, 39, 42, 43, 45, 46, 94, 95, 96, 124, 126].contains c
theorem tok_f (c : Int) (h0 : 0 ≤ c) (h1 : c ≤ 255) : chars_Token.f c = some (isTok c) := byte_all (p := fun c => chars_Token.f c = some (isTok c)) (by decide +kernel) c h0 h1
end Go.Proofs.YtdmbgbennlnpcaaDoor.Hd
namespace Go.Proofs.YtdmbgbennlnpcaaDoor.Hd
open Go.RowKit Go.Proofs.YtdmbgbennlnpcaaDoorW.PrintWords Go.Proofs.YtdmbgbennlnpcaaDoorW.PrintLast Go.Proofs.YtdmbgbennlnpcaaDoorW.PrintMore
set_option linter.unusedVariables false
set_option linter.unusedSimpArgs false
def head_minor.f (a0 : ByteArray) : Option (Int) := if 7 < (a0.size : Int) then (some (((bt a0 7) - 48) % 256)) else (none)
set_option maxHeartbeats 8000000 in
set_option maxRecDepth 100000 in
theorem head_minor.calls (a0 : ByteArray) (r : Int) (w : World) (h : head_minor.f a0 = some r) :
    Calls Tryd.prog 136 #[.string a0] w fun e w' => e = .returned (.int .i64 r) ∧ Drawn0 w w' := by
  have H : (if 7 < (a0.size : Int) then (some (((bt a0 7) - 48) % 256)) else (none)) = some r := h
  clear h
  by_cases c2 : 7 < (a0.size : Int)
  · rw [if_pos c2] at H
    have c2b0 : decide (7 < (a0.size : Int)) = true := decide_eq_true c2
    have c2b1 : decide (7 < a0.size) = true := decide_eq_true (by omega)
    clear c2
    obtain rfl := Option.some.inj H
    have p3 : 0 ≤ (7 : Int) := (by omega)
    have q3 : 7 < a0.size := (by have : (7 : Int) < (a0.size : Int) := of_decide_eq_true (by first | (with_reducible assumption) | assumption); omega)
    have hx3 : ∀ h : 7 < a0.size, ((a0[7]'h).toNat : Int) = bt a0 7 := bt_at a0 7
    clear p3
    have qi3 : (7 < (a0.size : Int)) = True := eq_true (of_decide_eq_true (by first | (with_reducible assumption) | assumption))
    replace q3 := eq_true q3
    go_enter Tryd.func136, Tryd.ntmps136
    go_wp2
    go_ret
    exact ⟨by first | rfl | (simp; done) | (simp [*]; done), by repeat (first | exact Drawn0.refl _ | apply Drawn0.step)⟩
  · rw [if_neg c2] at H
    exact absurd H (by simp)
end Go.Proofs.YtdmbgbennlnpcaaDoor.Hd
namespace Go.Proofs.YtdmbgbennlnpcaaDoor.Hd
open Go.RowKit Go.Proofs.YtdmbgbennlnpcaaDoorW.PrintWords Go.Proofs.YtdmbgbennlnpcaaDoorW.PrintLast Go.Proofs.YtdmbgbennlnpcaaDoorW.PrintMore
set_option linter.unusedVariables false
set_option linter.unusedSimpArgs false
set_option maxRecDepth 8000
def isVis (c : Int) : Bool := if c > 32 then decide (c < 127) else false
theorem vis_f (c : Int) : chars_Visible.f c = some (isVis c) := by
  unfold chars_Visible.f isVis
  split <;> rfl
def isVal (c : Int) : Bool := if c = 9 then true else if c ≥ 32 then c != 127 else false
theorem val_f (c : Int) : chars_Value.f c = some (isVal c) := by
  unfold chars_Value.f isVal
  split
  · rfl
  · split <;> rfl
def minorOf (word : List Int) : Int := ((bt (strOfNums word) 7) - 48) % 256
theorem minor_f (l : List Int) (h : l.length = 8) : head_minor.f (strOfNums l) = some (minorOf l) := by
  unfold head_minor.f minorOf
  rw [if_pos (by rw [strOfNums_size]; omega)]
def RdSt.push (s : RdSt) (c : Int) : RdSt := {s with word := s.word ++ [c]}
def RdSt.reqLine (s : RdSt) (c : Int) : RdSt × Bool :=
  if s.at_ = 0 then (if c = 32 ∧ 0 < s.word.length then ({s.taken 1 with qm := strOfNums s.word}, true) else (s.push c, isTok c))
  else if s.at_ = 1 then (if c = 32 ∧ 0 < s.word.length then ({s.taken 2 with qt := strOfNums s.word}, true) else (s.push c, isVis c))
  else if c = 13 ∧ s.word.length = 8 then ({s.taken 6 with qn := minorOf s.word}, true) else (s.push c, isVersion s.word c)
theorem requestLine_calls (base : Nat) (w : World) (g : Nat) (s : RdSt) (u0 u1 : Value) (c : Int) (hc0 : 0 ≤ c) (hc1 : c ≤ 255) (hl : s.word.length ≤ 1000000) (h : Rd base w g s u0 u1) :
    Calls Tryd.prog 120 #[.pointer (some ⟨g, 0, none⟩), .int .u8 c] w fun e w' => ∃ v0, e = .returned (.bool (s.reqLine c).2) ∧ St base w g u0 u1 w' (s.reqLine c).1 v0 u1 := by
  obtain ⟨A, cp, rfl, hcl, hc⟩ := Kd.R_reads h.word
  have e2 : w.cell? ⟨g, 2, none⟩ = some (.int .i64 s.at_) := (blk_cell h.blk 2).trans rfl
  have e3 : w.cell? ⟨g, 3, none⟩ = some (.slice A s.word.length cp) := (blk_cell h.blk 3).trans rfl
  have f2 := blk_frozen h.blk 2
  have f3 := blk_frozen h.blk 3
  have e6 : w.cell? ⟨g, 6, none⟩ = some (.string s.qm) := (blk_cell h.blk 6).trans rfl
  have e7 : w.cell? ⟨g, 7, none⟩ = some (.string s.qt) := (blk_cell h.blk 7).trans rfl
  have e8 : w.cell? ⟨g, 8, none⟩ = some (.int .i64 s.qn) := (blk_cell h.blk 8).trans rfl
  have f6 := blk_frozen h.blk 6
  have f7 := blk_frozen h.blk 7
  have f8 := blk_frozen h.blk 8
  have hcv := Kd.C_string (P := Tryd.prog) (A := A) (c := cp) (src := 25) (dst := 9) (e := 5) Tryd.underlying25 Tryd.underlying5 Tryd.underlying9 hc
  have X := Aside0.mk h.st
  clear h hc
  unfold RdSt.reqLine
  go_enter Tryd.func120, Tryd.ntmps120
  by_cases c1 : s.at_ = 0
  · rw [if_pos c1]
    rw [c1] at e2
    by_cases c2 : c = 32
    · subst c2
      by_cases c3 : 0 < s.word.length
      · rw [if_pos ⟨rfl, c3⟩]
        have d3 : decide ((s.word.length : Int) > 0) = true := decide_eq_true (by omega)
        go_wp2
        go_ret
        exact ⟨rfl, _, (((X.out.cut (Nat.zero_le _) rfl).put 2 _ (s' := s.taken 1) rfl rfl rfl).put 6 _ rfl rfl rfl)⟩
      · rw [if_neg (fun x => c3 x.2)]
        have d3 : decide ((s.word.length : Int) > 0) = false := decide_eq_false (by omega)
        go_wp2_with (first
          | ((with_reducible refine gate_builtin (b := .append) (xs := #[.tmp 32, .tmp 34]) rfl ?_); at_builtin
             refine Kd.R_append (Kd.int .u8) (w0 := w) base rfl (.tmp 32) (.tmp 34) 25 5 (.int .u8 0) 1 rfl Tryd.underlying25 info5 rfl (by decide) (by omega) (.slice A s.word.length cp) s.word 32 [.int .u8 32] (fun _ => True) (fun _ => False) rfl rfl ?aP (fun _ hk => hk.elim) (fun _ _ => trivial) ?aO ?aB ?aS ?aL ?_
             case aP => exact rfl
             case aO => exact X.out.rd.word
             case aB => exact Below.refl _ _
             case aS => exact X.out.rd.size
             case aL => omega
             intro x1 w1 ho hb hg hat
             obtain ⟨A1, cp1, ex1, _, _⟩ := Kd.R_reads ho
             rw [List.length_append, List.length_singleton] at ex1
             subst ex1
             have Y := Aside0.mk (X.out.grow ho hb hg hat)
             have f13 := blk_frozen (blk_grown X.out.rd.blk hg (Kd.R_ne X.out.rd.word X.out.rd.blk (by decide))) 3
             have e13 : w1.cell? ⟨g, 3, none⟩ = some (.slice A s.word.length cp) := (blk_cell (blk_grown X.out.rd.blk hg (Kd.R_ne X.out.rd.word X.out.rd.blk (by decide))) 3).trans rfl
             clear ho hb hg hat)
          | ((with_reducible refine gate_callee (f := 80) rfl ?_)
             refine goesL_ (some 39) rfl rfl Tryd.func80 (by kernel_rfl) rfl #[.int .u8 32] rfl (by (try simp only [List.map_toArray, List.map_cons, List.map_nil]); first | done | rfl) ?_
             (with_reducible refine (chars_Token.calls 32 _ _ (tok_f _ (by decide) (by decide))).mono ?_)
             rintro e w2 ⟨rfl, hd⟩
             have Z := Aside0.mk (Y.out.on hd.below)
             clear hd
             refine ⟨_, rfl, ?_⟩))
        go_ret
        first | exact ⟨_, rfl, Z.out⟩ | exact ⟨rfl, _, Z.out⟩
    · rw [if_neg (fun x => c2 x.1)]
      have d3 : (c == 32) = false := by simpa using c2
      go_wp2_with (first
        | ((with_reducible refine gate_builtin (b := .append) (xs := #[.tmp 32, .tmp 34]) rfl ?_); at_builtin
           refine Kd.R_append (Kd.int .u8) (w0 := w) base rfl (.tmp 32) (.tmp 34) 25 5 (.int .u8 0) 1 rfl Tryd.underlying25 info5 rfl (by decide) (by omega) (.slice A s.word.length cp) s.word c [.int .u8 c] (fun _ => True) (fun _ => False) rfl rfl ?aP (fun _ hk => hk.elim) (fun _ _ => trivial) ?aO ?aB ?aS ?aL ?_
           case aP => exact rfl
           case aO => exact X.out.rd.word
           case aB => exact Below.refl _ _
           case aS => exact X.out.rd.size
           case aL => omega
           intro x1 w1 ho hb hg hat
           obtain ⟨A1, cp1, ex1, _, _⟩ := Kd.R_reads ho
           rw [List.length_append, List.length_singleton] at ex1
           subst ex1
           have Y := Aside0.mk (X.out.grow ho hb hg hat)
           have f13 := blk_frozen (blk_grown X.out.rd.blk hg (Kd.R_ne X.out.rd.word X.out.rd.blk (by decide))) 3
           have e13 : w1.cell? ⟨g, 3, none⟩ = some (.slice A s.word.length cp) := (blk_cell (blk_grown X.out.rd.blk hg (Kd.R_ne X.out.rd.word X.out.rd.blk (by decide))) 3).trans rfl
           clear ho hb hg hat)
        | ((with_reducible refine gate_callee (f := 80) rfl ?_)
           refine goesL_ (some 39) rfl rfl Tryd.func80 (by kernel_rfl) rfl #[.int .u8 c] rfl (by (try simp only [List.map_toArray, List.map_cons, List.map_nil]); first | done | rfl) ?_
           (with_reducible refine (chars_Token.calls c _ _ (tok_f _ hc0 hc1)).mono ?_)
           rintro e w2 ⟨rfl, hd⟩
           have Z := Aside0.mk (Y.out.on hd.below)
           clear hd
           refine ⟨_, rfl, ?_⟩))
      go_ret
      first | exact ⟨_, rfl, Z.out⟩ | exact ⟨rfl, _, Z.out⟩
  · rw [if_neg c1]
    have d1 : (s.at_ == 0) = false := by simpa using c1
    by_cases c0 : s.at_ = 1
    · rw [if_pos c0]
      rw [c0] at e2
      clear d1
      by_cases c2 : c = 32
      · subst c2
        by_cases c3 : 0 < s.word.length
        · rw [if_pos ⟨rfl, c3⟩]
          have d3 : decide ((s.word.length : Int) > 0) = true := decide_eq_true (by omega)
          go_wp2
          go_ret
          exact ⟨rfl, _, (((X.out.cut (Nat.zero_le _) rfl).put 2 _ (s' := s.taken 2) rfl rfl rfl).put 7 _ rfl rfl rfl)⟩
        · rw [if_neg (fun x => c3 x.2)]
          have d3 : decide ((s.word.length : Int) > 0) = false := decide_eq_false (by omega)
          go_wp2_with (first
            | ((with_reducible refine gate_builtin (b := .append) (xs := #[.tmp 62, .tmp 64]) rfl ?_); at_builtin
               refine Kd.R_append (Kd.int .u8) (w0 := w) base rfl (.tmp 62) (.tmp 64) 25 5 (.int .u8 0) 1 rfl Tryd.underlying25 info5 rfl (by decide) (by omega) (.slice A s.word.length cp) s.word 32 [.int .u8 32] (fun _ => True) (fun _ => False) rfl rfl ?aP (fun _ hk => hk.elim) (fun _ _ => trivial) ?aO ?aB ?aS ?aL ?_
               case aP => exact rfl
               case aO => exact X.out.rd.word
               case aB => exact Below.refl _ _
               case aS => exact X.out.rd.size
               case aL => omega
               intro x1 w1 ho hb hg hat
               obtain ⟨A1, cp1, ex1, _, _⟩ := Kd.R_reads ho
               rw [List.length_append, List.length_singleton] at ex1
               subst ex1
               have Y := Aside0.mk (X.out.grow ho hb hg hat)
               have f13 := blk_frozen (blk_grown X.out.rd.blk hg (Kd.R_ne X.out.rd.word X.out.rd.blk (by decide))) 3
               have e13 : w1.cell? ⟨g, 3, none⟩ = some (.slice A s.word.length cp) := (blk_cell (blk_grown X.out.rd.blk hg (Kd.R_ne X.out.rd.word X.out.rd.blk (by decide))) 3).trans rfl
               clear ho hb hg hat)
            | ((with_reducible refine gate_callee (f := 45) rfl ?_)
               refine goesL_ (some 69) rfl rfl Tryd.func45 (by kernel_rfl) rfl #[.int .u8 32] rfl (by (try simp only [List.map_toArray, List.map_cons, List.map_nil]); first | done | rfl) ?_
               (with_reducible refine (chars_Visible.calls 32 _ _ (vis_f _)).mono ?_)
               rintro e w2 ⟨rfl, hd⟩
               have Z := Aside0.mk (Y.out.on hd.below)
               clear hd
               refine ⟨_, rfl, ?_⟩))
          go_ret
          first | exact ⟨_, rfl, Z.out⟩ | exact ⟨rfl, _, Z.out⟩
      · rw [if_neg (fun x => c2 x.1)]
        have d3 : (c == 32) = false := by simpa using c2
        go_wp2_with (first
          | ((with_reducible refine gate_builtin (b := .append) (xs := #[.tmp 62, .tmp 64]) rfl ?_); at_builtin
             refine Kd.R_append (Kd.int .u8) (w0 := w) base rfl (.tmp 62) (.tmp 64) 25 5 (.int .u8 0) 1 rfl Tryd.underlying25 info5 rfl (by decide) (by omega) (.slice A s.word.length cp) s.word c [.int .u8 c] (fun _ => True) (fun _ => False) rfl rfl ?aP (fun _ hk => hk.elim) (fun _ _ => trivial) ?aO ?aB ?aS ?aL ?_
             case aP => exact rfl
             case aO => exact X.out.rd.word
             case aB => exact Below.refl _ _
             case aS => exact X.out.rd.size
             case aL => omega
             intro x1 w1 ho hb hg hat
             obtain ⟨A1, cp1, ex1, _, _⟩ := Kd.R_reads ho
             rw [List.length_append, List.length_singleton] at ex1
             subst ex1
             have Y := Aside0.mk (X.out.grow ho hb hg hat)
             have f13 := blk_frozen (blk_grown X.out.rd.blk hg (Kd.R_ne X.out.rd.word X.out.rd.blk (by decide))) 3
             have e13 : w1.cell? ⟨g, 3, none⟩ = some (.slice A s.word.length cp) := (blk_cell (blk_grown X.out.rd.blk hg (Kd.R_ne X.out.rd.word X.out.rd.blk (by decide))) 3).trans rfl
             clear ho hb hg hat)
          | ((with_reducible refine gate_callee (f := 45) rfl ?_)
             refine goesL_ (some 69) rfl rfl Tryd.func45 (by kernel_rfl) rfl #[.int .u8 c] rfl (by (try simp only [List.map_toArray, List.map_cons, List.map_nil]); first | done | rfl) ?_
             (with_reducible refine (chars_Visible.calls c _ _ (vis_f _)).mono ?_)
             rintro e w2 ⟨rfl, hd⟩
             have Z := Aside0.mk (Y.out.on hd.below)
             clear hd
             refine ⟨_, rfl, ?_⟩))
        go_ret
        first | exact ⟨_, rfl, Z.out⟩ | exact ⟨rfl, _, Z.out⟩
    · rw [if_neg c0]
      have d0 : (s.at_ == 1) = false := by simpa using c0
      by_cases c2 : c = 13
      · subst c2
        by_cases c3 : s.word.length = 8
        · rw [if_pos ⟨rfl, c3⟩]
          have d3 : ((s.word.length : Int) == 8) = true := by rw [c3]; rfl
          have C3 := Aside0.mk c3
          clear c3
          go_wp2_with (first
            | ((with_reducible refine gate_callee (f := 135) rfl ?_)
               refine goesL_ (some 82) rfl rfl Tryd.func135 (by kernel_rfl) rfl #[.pointer (some ⟨g, 0, none⟩), .int .i64 6] rfl (by (try simp only [List.map_toArray, List.map_cons, List.map_nil]); first | done | rfl) ?_
               (with_reducible refine (take_calls base w g s (.slice A s.word.length cp) u1 6 X.out.rd).mono ?_)
               rintro e w3 ⟨x3, rfl, hd⟩
               have X3 := Aside0.mk (X.out.trans hd)
               clear hd
               refine ⟨_, rfl, ?_⟩)
            | ((with_reducible refine gate_callee (f := 136) rfl ?_)
               refine goesL_ (some 83) rfl rfl Tryd.func136 (by kernel_rfl) rfl #[.string (strOfNums s.word)] rfl (by (try simp only [List.map_toArray, List.map_cons, List.map_nil]); first | done | rfl) ?_
               (with_reducible refine (head_minor.calls (strOfNums s.word) _ _ (minor_f s.word C3.out)).mono ?_)
               rintro e w2 ⟨rfl, hd⟩
               have Z := Aside0.mk (X3.out.on hd.below)
               have g8 := blk_frozen Z.out.rd.blk 8
               have k8 : w2.cell? ⟨g, 8, none⟩ = some (.int .i64 s.qn) := (blk_cell Z.out.rd.blk 8).trans rfl
               clear hd
               refine ⟨_, rfl, ?_⟩))
          go_ret
          exact ⟨rfl, _, Z.out.put 8 _ (s' := {s.taken 6 with qn := minorOf s.word}) rfl rfl rfl⟩
        · rw [if_neg (fun x => c3 x.2)]
          have d3 : ((s.word.length : Int) == 8) = false := by
            refine beq_eq_false_iff_ne.mpr (fun x => c3 (by omega))
          go_wp2_with (first
            | ((with_reducible refine gate_callee (f := 137) rfl ?_)
               refine goesL_ (some 89) rfl rfl Tryd.func137 (by kernel_rfl) rfl #[.pointer (some ⟨g, 0, none⟩), .int .u8 13] rfl (by (try simp only [List.map_toArray, List.map_cons, List.map_nil]); first | done | rfl) ?_
               (with_reducible refine (version_calls base w g s (.slice A s.word.length cp) u1 13 X.out.rd).mono ?_)
               rintro e w3 ⟨rfl, hd⟩
               have X3 := Aside0.mk (X.out.on hd)
               have g3 := blk_frozen X3.out.rd.blk 3
               have k3 : w3.cell? ⟨g, 3, none⟩ = some (.slice A s.word.length cp) := (blk_cell X3.out.rd.blk 3).trans rfl
               clear hd
               refine ⟨_, rfl, ?_⟩)
            | ((with_reducible refine gate_builtin (b := .append) (xs := #[.tmp 94, .tmp 96]) rfl ?_); at_builtin
               refine Kd.R_append (Kd.int .u8) (w0 := w3) base rfl (.tmp 94) (.tmp 96) 25 5 (.int .u8 0) 1 rfl Tryd.underlying25 info5 rfl (by decide) (by omega) (.slice A s.word.length cp) s.word 13 [.int .u8 13] (fun _ => True) (fun _ => False) rfl rfl ?aP (fun _ hk => hk.elim) (fun _ _ => trivial) ?aO ?aB ?aS ?aL ?_
               case aP => exact rfl
               case aO => exact X3.out.rd.word
               case aB => exact Below.refl _ _
               case aS => exact X3.out.rd.size
               case aL => omega
               intro x1 w1 ho hb hg hat
               obtain ⟨A1, cp1, ex1, _, _⟩ := Kd.R_reads ho
               rw [List.length_append, List.length_singleton] at ex1
               subst ex1
               have Y := Aside0.mk (X3.out.grow ho hb hg hat)
               have f13 := blk_frozen (blk_grown X3.out.rd.blk hg (Kd.R_ne X3.out.rd.word X3.out.rd.blk (by decide))) 3
               have e13 : w1.cell? ⟨g, 3, none⟩ = some (.slice A s.word.length cp) := (blk_cell (blk_grown X3.out.rd.blk hg (Kd.R_ne X3.out.rd.word X3.out.rd.blk (by decide))) 3).trans rfl
               clear ho hb hg hat))
          go_ret
          first | exact ⟨_, rfl, Y.out⟩ | exact ⟨rfl, _, Y.out⟩
      · rw [if_neg (fun x => c2 x.1)]
        have d3 : (c == 13) = false := by simpa using c2
        go_wp2_with (first
          | ((with_reducible refine gate_callee (f := 137) rfl ?_)
             refine goesL_ (some 89) rfl rfl Tryd.func137 (by kernel_rfl) rfl #[.pointer (some ⟨g, 0, none⟩), .int .u8 c] rfl (by (try simp only [List.map_toArray, List.map_cons, List.map_nil]); first | done | rfl) ?_
             (with_reducible refine (version_calls base w g s (.slice A s.word.length cp) u1 c X.out.rd).mono ?_)
             rintro e w3 ⟨rfl, hd⟩
             have X3 := Aside0.mk (X.out.on hd)
             have g3 := blk_frozen X3.out.rd.blk 3
             have k3 : w3.cell? ⟨g, 3, none⟩ = some (.slice A s.word.length cp) := (blk_cell X3.out.rd.blk 3).trans rfl
             clear hd
             refine ⟨_, rfl, ?_⟩)
          | ((with_reducible refine gate_builtin (b := .append) (xs := #[.tmp 94, .tmp 96]) rfl ?_); at_builtin
             refine Kd.R_append (Kd.int .u8) (w0 := w3) base rfl (.tmp 94) (.tmp 96) 25 5 (.int .u8 0) 1 rfl Tryd.underlying25 info5 rfl (by decide) (by omega) (.slice A s.word.length cp) s.word c [.int .u8 c] (fun _ => True) (fun _ => False) rfl rfl ?aP (fun _ hk => hk.elim) (fun _ _ => trivial) ?aO ?aB ?aS ?aL ?_
             case aP => exact rfl
             case aO => exact X3.out.rd.word
             case aB => exact Below.refl _ _
             case aS => exact X3.out.rd.size
             case aL => omega
             intro x1 w1 ho hb hg hat
             obtain ⟨A1, cp1, ex1, _, _⟩ := Kd.R_reads ho
             rw [List.length_append, List.length_singleton] at ex1
             subst ex1
             have Y := Aside0.mk (X3.out.grow ho hb hg hat)
             have f13 := blk_frozen (blk_grown X3.out.rd.blk hg (Kd.R_ne X3.out.rd.word X3.out.rd.blk (by decide))) 3
             have e13 : w1.cell? ⟨g, 3, none⟩ = some (.slice A s.word.length cp) := (blk_cell (blk_grown X3.out.rd.blk hg (Kd.R_ne X3.out.rd.word X3.out.rd.blk (by decide))) 3).trans rfl
             clear ho hb hg hat))
        go_ret
        first | exact ⟨_, rfl, Y.out⟩ | exact ⟨rfl, _, Y.out⟩
end Go.Proofs.YtdmbgbennlnpcaaDoor.Hd
namespace Go.Proofs.YtdmbgbennlnpcaaDoor.Hd
open Go.RowKit Go.Proofs.YtdmbgbennlnpcaaDoorW.PrintWords Go.Proofs.YtdmbgbennlnpcaaDoorW.PrintLast Go.Proofs.YtdmbgbennlnpcaaDoorW.PrintMore
set_option linter.unusedVariables false
set_option linter.unusedSimpArgs false
def hexV (c : Int) : Int × Bool := if 48 ≤ c ∧ c ≤ 57 then (c - 48, true) else if 97 ≤ c ∧ c ≤ 102 then (c - 87, true) else if 65 ≤ c ∧ c ≤ 70 then (c - 55, true) else (0, false)
theorem hex_ev (c : Int) (h0 : 0 ≤ c) (h1 : c ≤ 255) : Ev (fun k => chars_Hex.f k c) (hexV c) := Ev.of (fun k => chars_Hex.mono _ _) (k := 2) (byte_all (p := fun c => chars_Hex.f 2 c = some (hexV c)) (by decide +kernel) c h0 h1)
end Go.Proofs.YtdmbgbennlnpcaaDoor.Hd
namespace Go.Proofs.YtdmbgbennlnpcaaDoor.Hd
open Go.RowKit Go.Proofs.YtdmbgbennlnpcaaDoorW.PrintWords Go.Proofs.YtdmbgbennlnpcaaDoorW.PrintLast Go.Proofs.YtdmbgbennlnpcaaDoorW.PrintMore
set_option linter.unusedVariables false
set_option linter.unusedSimpArgs false
def dgV (b : UInt8) : Int := (hexV (b.toNat : Int)).1
def dgOk (base : Int) (b : UInt8) : Bool := (hexV (b.toNat : Int)).2 && decide (dgV b < base)
def valsB (base : Int) : Int → List UInt8 → Int
  | n, [] => n
  | n, b :: l => valsB base (n * base + dgV b) l
theorem dgV_range (b : UInt8) : 0 ≤ dgV b ∧ dgV b ≤ 15 := by
  have hb := byte_range b
  exact byte_all (p := fun c => 0 ≤ (hexV c).1 ∧ (hexV c).1 ≤ 15) (by decide +kernel) _ hb.1 hb.2
theorem valsB_ge (base : Int) (hb : 1 ≤ base) : ∀ (l : List UInt8) (n : Int), 0 ≤ n → n ≤ valsB base n l
  | [], n, _ => Int.le_refl _
  | b :: l, n, h => by
    have hd := dgV_range b
    have h1 : n ≤ n * base := by
      have := Int.mul_le_mul_of_nonneg_left hb h
      simpa using this
    have := valsB_ge base hb l (n * base + dgV b) (by omega)
    simp only [valsB]
    omega
theorem over_iff (base most n d : Int) (hb : 1 ≤ base) (hd : 0 ≤ d) (hdm : d ≤ most) : n > (most - d) / base ↔ n * base + d > most := by
  have h := Int.ediv_lt_iff_lt_mul (a := most - d) (b := n) (c := base) (by omega)
  constructor
  · intro h1; have := h.1 h1; omega
  · intro h1; exact h.2 (by omega)
def numR (base most : Int) (far : Bool) (n : Int) (l : List UInt8) : Int × Option Int := if l.all (dgOk base) = true then (if far = true ∨ valsB base n l > most then (0, some 4) else (valsB base n l, none)) else (0, some 3)
theorem numR_cons_bad (base most : Int) (far : Bool) (n : Int) (b : UInt8) (l : List UInt8) (h : dgOk base b = false) : numR base most far n (b :: l) = (0, some 3) := by simp [numR, h]
theorem numR_cons_far (base most : Int) (n m : Int) (b : UInt8) (l : List UInt8) (h : dgOk base b = true) : numR base most true n (b :: l) = numR base most true m l := by simp [numR, h]
theorem numR_cons_over (base most : Int) (n m : Int) (b : UInt8) (l : List UInt8) (hb : 1 ≤ base) (hn : 0 ≤ n) (h : dgOk base b = true) (ho : n * base + dgV b > most) : numR base most false n (b :: l) = numR base most true m l := by
  have hd := dgV_range b
  have h1 : 0 ≤ n * base := Int.mul_nonneg hn (by omega)
  have := valsB_ge base hb l (n * base + dgV b) (by omega)
  simp only [numR, List.all_cons, h, Bool.true_and, valsB, true_or, if_true]
  simp only [Bool.false_eq_true, false_or]
  rw [if_pos (show valsB base (n * base + dgV b) l > most by omega)]
theorem numR_cons_go (base most : Int) (n : Int) (b : UInt8) (l : List UInt8) (h : dgOk base b = true) : numR base most false n (b :: l) = numR base most false (n * base + dgV b) l := by simp [numR, h, valsB]
theorem number_l0 (s : ByteArray) (hs : s.size ≤ 9223372036854775807) (hne : s.data.toList ≠ []) (base most : Int) (hb : 2 ≤ base) (hb2 : base ≤ 16) (hm : 0 ≤ most) (hm2 : most ≤ 9223372036854775807) :
    ∀ (l : List UInt8) (i n : Int) (far : Bool), 0 ≤ i → i ≤ s.size → 0 ≤ n → n ≤ most → s.data.toList.drop i.toNat = l → Ev (fun k => chars_number.l0 k s base most n far i) (numR base most far n l)
  | [], i, n, far, h0, h1, hn0, hn1, h => by
    have e := scan_nil h0 h1 h
    refine Ev.step (fun k => by rw [chars_number.l0]) ?_
    simp only [if_neg (show ¬ i < (s.size : Int) by omega), ba_toList, if_neg hne]
    cases far
    · simp only [Bool.false_eq_true, if_false]
      simpa [numR, valsB, show ¬ most < n by omega] using Ev.now (n, (none : Option Int))
    · simpa [numR] using Ev.now ((0 : Int), some (4 : Int))
  | b :: l, i, n, far, h0, h1, hn0, hn1, h => by
    obtain ⟨h2, h3, h4⟩ := scan_cons h0 h
    have hbr := byte_range b
    have hd := dgV_range b
    refine Ev.step (fun k => by rw [chars_number.l0]) ?_
    simp only [if_pos h2, if_pos h0, h3]
    refine Ev.bind (hex_ev _ hbr.1 hbr.2) ?_
    have hw : wrap64 (i + 1) = i + 1 := wrap_in (by omega)
    have hj : ∀ bad : Bool, bad = !dgOk base b → Ev (fun k => chars_number.j1 k s base most n far i (dgV b) bad) (numR base most far n (b :: l)) := by
      intro bad hbad
      refine Ev.step (fun k => by rw [chars_number.j1]) ?_
      cases hok : dgOk base b
      · rw [hbad, hok, numR_cons_bad _ _ _ _ _ _ hok]
        exact Ev.now _
      · rw [hbad, hok, hw]
        simp only [Bool.not_true, Bool.false_eq_true, if_false]
        cases far
        · simp only [Bool.false_eq_true, if_false, if_neg (show ¬ base = 0 by omega)]
          have hsub : wrap64 (most - dgV b) = most - dgV b := wrap_in (by omega)
          rw [hsub]
          by_cases hlt : most < dgV b
          · have hov : n * base + dgV b > most := by have := Int.mul_nonneg hn0 (show 0 ≤ base by omega); omega
            have ih := number_l0 s hs hne base most hb hb2 hm hm2 l (i + 1) n true (by omega) (by omega) hn0 hn1 h4
            rw [numR_cons_over base most n n b l (by omega) hn0 hok hov]
            by_cases hq : n > wrap64 ((most - dgV b).tdiv base)
            · simpa only [if_pos hq] using ih
            · simpa only [if_neg hq, if_pos hlt] using ih
          · have htd : (most - dgV b).tdiv base = (most - dgV b) / base := Int.tdiv_eq_ediv_of_nonneg (by omega)
            have hle : (most - dgV b) / base ≤ most - dgV b := Int.ediv_le_self _ (by omega)
            have hge : 0 ≤ (most - dgV b) / base := Int.ediv_nonneg (by omega) (by omega)
            rw [htd, wrap_in (n := (most - dgV b) / base) (by omega)]
            by_cases hq : n > (most - dgV b) / base
            · have hov := (over_iff base most n (dgV b) (by omega) hd.1 (by omega)).1 hq
              have ih := number_l0 s hs hne base most hb hb2 hm hm2 l (i + 1) n true (by omega) (by omega) hn0 hn1 h4
              rw [numR_cons_over base most n n b l (by omega) hn0 hok hov]
              simpa only [if_pos hq] using ih
            · have hov : ¬ n * base + dgV b > most := fun h => hq ((over_iff base most n (dgV b) (by omega) hd.1 (by omega)).2 h)
              have hnb := Int.mul_nonneg hn0 (show 0 ≤ base by omega)
              have ih := number_l0 s hs hne base most hb hb2 hm hm2 l (i + 1) (n * base + dgV b) false (by omega) (by omega) (by omega) (by omega) h4
              rw [numR_cons_go base most n b l hok]
              rw [wrap_in (n := n * base) (by omega), wrap_in (n := n * base + dgV b) (by omega)]
              simpa only [if_neg hq, if_neg hlt] using ih
        · have ih := number_l0 s hs hne base most hb hb2 hm hm2 l (i + 1) n true (by omega) (by omega) hn0 hn1 h4
          rw [numR_cons_far base most n n b l hok]
          simpa only [if_true] using ih
    by_cases hv : (hexV (b.toNat : Int)).2 = true
    · simp only [if_pos hv]
      refine hj _ ?_
      simp only [dgOk, hv, Bool.true_and]
      by_cases hlt : dgV b < base
      · simp [hlt, show ¬ base ≤ (hexV (b.toNat : Int)).1 from by have : dgV b < base := hlt; unfold dgV at this; omega]
      · simp [hlt, show base ≤ (hexV (b.toNat : Int)).1 from by have : ¬ dgV b < base := hlt; unfold dgV at this; omega]
    · simp only [if_neg hv]
      refine hj _ ?_
      simp [dgOk, hv]
def numS (base most : Int) (l : List UInt8) : Int × Int := if most < 0 then (0, 1) else if l = [] then (0, 3) else if l.all (dgOk base) = true then (if valsB base 0 l > most then (0, 4) else (valsB base 0 l, 0)) else (0, 3)
def errOf (c : Int) : Option Int := if c = 0 then none else some c
theorem number_ev (s : ByteArray) (hs : s.size ≤ 9223372036854775807) (base most : Int) (hb : 2 ≤ base) (hb2 : base ≤ 16) (hm2 : most ≤ 9223372036854775807) :
    Ev (fun k => chars_number.f k s base most) ((numS base most s.data.toList).1, errOf (numS base most s.data.toList).2) := by
  unfold chars_number.f numS
  by_cases hm : most < 0
  · simp only [if_pos hm]
    exact Ev.now (0, some 1)
  · simp only [if_neg hm]
    by_cases hne : s.data.toList = []
    · have hsz : s.size = 0 := by rw [← ba_len, hne]; rfl
      simp only [if_pos hne]
      refine Ev.step (fun k => by rw [chars_number.l0]) ?_
      simp only [if_neg (show ¬ (0 : Int) < (s.size : Int) by omega), ba_toList, if_pos hne]
      exact Ev.now (0, some 3)
    · simp only [if_neg hne, ba_toList, show (s.data.toList == ([] : List UInt8)) = false from beq_eq_false_iff_ne.2 hne]
      have := number_l0 s hs hne base most hb hb2 (by omega) hm2 _ 0 0 false (by omega) (by omega) (by omega) (by omega) rfl
      simp only [Int.toNat_zero, List.drop_zero] at this
      refine Ev.congr (fun _ => rfl) ?_
      have e : numR base most false 0 s.data.toList = ((if s.data.toList.all (dgOk base) = true then if valsB base 0 s.data.toList > most then (0, 4) else (valsB base 0 s.data.toList, 0) else (0, 3) : Int × Int).1, errOf (if s.data.toList.all (dgOk base) = true then if valsB base 0 s.data.toList > most then (0, 4) else (valsB base 0 s.data.toList, 0) else (0, 3) : Int × Int).2) := by
        unfold numR
        by_cases h1 : s.data.toList.all (dgOk base) = true
        · by_cases h2 : valsB base 0 s.data.toList > most <;> simp [h1, h2, errOf]
        · simp [h1, errOf]
      rw [← e]
      exact this
theorem decimal_ev (s : ByteArray) (hs : s.size ≤ 9223372036854775807) (most : Int) (hm2 : most ≤ 9223372036854775807) : Ev (fun k => chars_Decimal.f k s most) ((numS 10 most s.data.toList).1, errOf (numS 10 most s.data.toList).2) := by
  unfold chars_Decimal.f
  exact Ev.bind (number_ev s hs 10 most (by omega) (by omega) hm2) (Ev.now _)
end Go.Proofs.YtdmbgbennlnpcaaDoor.Hd
namespace Go.Proofs.YtdmbgbennlnpcaaDoor.Hd
open Go.RowKit Go.Proofs.YtdmbgbennlnpcaaDoorW.PrintWords Go.Proofs.YtdmbgbennlnpcaaDoorW.PrintLast Go.Proofs.YtdmbgbennlnpcaaDoorW.PrintMore
set_option linter.unusedVariables false
set_option linter.unusedSimpArgs false
set_option maxRecDepth 8000
def digB (c : Int) : Bool := if c ≥ 48 then decide (c ≤ 57) else false
theorem digB_f (c : Int) : chars_Digit.f c = some (digB c) := by
  unfold chars_Digit.f digB
  split <;> rfl
theorem digB_f' (c : Int) (b : Bool) (h : digB c = b) : chars_Digit.f c = some b := by rw [digB_f, h]
def decOf (word : List Int) : Int := (numS 10 999 (strOfNums word).data.toList).1
def RdSt.statLine (s : RdSt) (c : Int) : RdSt × Bool :=
  if s.at_ = 3 then (if c = 32 ∧ s.word.length = 8 then ({s.taken 4 with pn := minorOf s.word}, true) else (s.push c, isVersion s.word c))
  else if s.at_ = 4 then (if s.word.length = 3 then ({s.taken 5 with ps := decOf s.word}, c == 32) else (s.push c, digB c && (decide (0 < s.word.length) || (decide (49 ≤ c) && decide (c ≤ 53)))))
  else if c = 13 then ({s.taken 6 with pr := strOfNums s.word}, true) else (s.push c, isVal c)
theorem push_cut (s : RdSt) (c : Int) : s = {(s.push c) with word := (s.push c).word.take s.word.length} := by
  cases s
  simp [RdSt.push]
theorem statusLine3 (base : Nat) (w : World) (g : Nat) (s : RdSt) (u0 u1 : Value) (c : Int) (hc0 : 0 ≤ c) (hc1 : c ≤ 255) (hl : s.word.length ≤ 1000000) (h : Rd base w g s u0 u1) (c1 : s.at_ = 3) :
    Calls Tryd.prog 121 #[.pointer (some ⟨g, 0, none⟩), .int .u8 c] w fun e w' => ∃ v0, e = .returned (.bool (s.statLine c).2) ∧ St base w g u0 u1 w' (s.statLine c).1 v0 u1 := by
  obtain ⟨A, cp, rfl, hcl, hc⟩ := Kd.R_reads h.word
  have e2 : w.cell? ⟨g, 2, none⟩ = some (.int .i64 s.at_) := (blk_cell h.blk 2).trans rfl
  have e3 : w.cell? ⟨g, 3, none⟩ = some (.slice A s.word.length cp) := (blk_cell h.blk 3).trans rfl
  have f2 := blk_frozen h.blk 2
  have f3 := blk_frozen h.blk 3
  have X := Aside0.mk h.st
  have hl0 : (0 : Int) ≤ (s.word.length : Int) := by omega
  have hl0d := decide_eq_true hl0
  clear h hc
  unfold RdSt.statLine
  go_enter Tryd.func121, Tryd.ntmps121
  rw [if_pos c1]
  have d1 : (s.at_ == 3) = true := by simpa using c1
  by_cases c2 : c = 32
  · subst c2
    by_cases c3 : s.word.length = 8
    · rw [if_pos ⟨rfl, c3⟩]
      have d3 : ((s.word.length : Int) == 8) = true := by rw [c3]; rfl
      have C3 := Aside0.mk c3
      clear c3
      go_wp2_with (first
        | ((with_reducible refine gate_builtin (b := .append) (xs := #[.tmp 16, .tmp 18]) rfl ?_); at_builtin
           refine Kd.R_append (Kd.int .u8) (w0 := w) base rfl (.tmp 16) (.tmp 18) 25 5 (.int .u8 0) 1 rfl Tryd.underlying25 info5 rfl (by decide) (by omega) (.slice A s.word.length cp) s.word 32 [.int .u8 32] (fun _ => True) (fun _ => False) rfl rfl ?aP (fun _ hk => hk.elim) (fun _ _ => trivial) ?aO ?aB ?aS ?aL ?_
           case aP => exact rfl
           case aO => exact X.out.rd.word
           case aB => exact Below.refl _ _
           case aS => exact X.out.rd.size
           case aL => omega
           intro x1 w1 ho hb hg hat
           obtain ⟨A1, cp1, ex1, hcp1, _⟩ := Kd.R_reads ho
           rw [List.length_append, List.length_singleton] at ex1 hcp1
           subst ex1
           have Y1 := Aside0.mk (X.out.grow ho hb hg hat)
           have f31 := blk_frozen (blk_grown X.out.rd.blk hg (Kd.R_ne X.out.rd.word X.out.rd.blk (by decide))) 3
           have e31 : w1.cell? ⟨g, 3, none⟩ = some (.slice A s.word.length cp) := (blk_cell (blk_grown X.out.rd.blk hg (Kd.R_ne X.out.rd.word X.out.rd.blk (by decide))) 3).trans rfl
           have f21 := blk_frozen (blk_grown X.out.rd.blk hg (Kd.R_ne X.out.rd.word X.out.rd.blk (by decide))) 2
           have e21 : w1.cell? ⟨g, 2, none⟩ = some (.int .i64 s.at_) := (blk_cell (blk_grown X.out.rd.blk hg (Kd.R_ne X.out.rd.word X.out.rd.blk (by decide))) 2).trans rfl
           clear ho hb hg hat
           )
        | ((with_reducible refine gate_callee (f := 135) rfl ?_)
           refine goesL_ (some 45) rfl rfl Tryd.func135 (by kernel_rfl) rfl #[.pointer (some ⟨g, 0, none⟩), .int .i64 4] rfl (by (try simp only [List.map_toArray, List.map_cons, List.map_nil]); first | done | rfl) ?_
           have XC := Aside0.mk (Y1.out.cut (s' := s) (m := s.word.length) (by simp) (push_cut s 32))
           (with_reducible refine (take_calls base _ g s (.slice A1 s.word.length cp1) u1 4 XC.out.rd).mono ?_)
           rintro e w3 ⟨x3, rfl, hd⟩
           have X3 := Aside0.mk (XC.out.trans hd)
           clear hd
           refine ⟨_, rfl, ?_⟩)
        | ((with_reducible refine gate_callee (f := 136) rfl ?_)
           refine goesL_ (some 46) rfl rfl Tryd.func136 (by kernel_rfl) rfl #[.string (strOfNums s.word)] rfl (by (try simp only [List.map_toArray, List.map_cons, List.map_nil]); first | done | rfl) ?_
           (with_reducible refine (head_minor.calls (strOfNums s.word) _ _ (minor_f s.word C3.out)).mono ?_)
           rintro e w2 ⟨rfl, hd⟩
           have Z := Aside0.mk (X3.out.on hd.below)
           have g12 := blk_frozen Z.out.rd.blk 12
           have k12 : w2.cell? ⟨g, 12, none⟩ = some (.int .i64 s.pn) := (blk_cell Z.out.rd.blk 12).trans rfl
           clear hd
           refine ⟨_, rfl, ?_⟩))
      go_ret
      exact ⟨rfl, _, Z.out.put 12 _ (s' := {s.taken 4 with pn := minorOf s.word}) rfl rfl rfl⟩
    · rw [if_neg (fun x => c3 x.2)]
      have d3 : ((s.word.length : Int) == 8) = false := by
        refine beq_eq_false_iff_ne.mpr (fun x => c3 (by omega))
      go_wp2_with (first
        | ((with_reducible refine gate_builtin (b := .append) (xs := #[.tmp 16, .tmp 18]) rfl ?_); at_builtin
           refine Kd.R_append (Kd.int .u8) (w0 := w) base rfl (.tmp 16) (.tmp 18) 25 5 (.int .u8 0) 1 rfl Tryd.underlying25 info5 rfl (by decide) (by omega) (.slice A s.word.length cp) s.word 32 [.int .u8 32] (fun _ => True) (fun _ => False) rfl rfl ?aP (fun _ hk => hk.elim) (fun _ _ => trivial) ?aO ?aB ?aS ?aL ?_
           case aP => exact rfl
           case aO => exact X.out.rd.word
           case aB => exact Below.refl _ _
           case aS => exact X.out.rd.size
           case aL => omega
           intro x1 w1 ho hb hg hat
           obtain ⟨A1, cp1, ex1, hcp1, _⟩ := Kd.R_reads ho
           rw [List.length_append, List.length_singleton] at ex1 hcp1
           subst ex1
           have Y1 := Aside0.mk (X.out.grow ho hb hg hat)
           have f31 := blk_frozen (blk_grown X.out.rd.blk hg (Kd.R_ne X.out.rd.word X.out.rd.blk (by decide))) 3
           have e31 : w1.cell? ⟨g, 3, none⟩ = some (.slice A s.word.length cp) := (blk_cell (blk_grown X.out.rd.blk hg (Kd.R_ne X.out.rd.word X.out.rd.blk (by decide))) 3).trans rfl
           have f21 := blk_frozen (blk_grown X.out.rd.blk hg (Kd.R_ne X.out.rd.word X.out.rd.blk (by decide))) 2
           have e21 : w1.cell? ⟨g, 2, none⟩ = some (.int .i64 s.at_) := (blk_cell (blk_grown X.out.rd.blk hg (Kd.R_ne X.out.rd.word X.out.rd.blk (by decide))) 2).trans rfl
           clear ho hb hg hat
           )
        | ((with_reducible refine gate_callee (f := 137) rfl ?_)
           refine goesL_ (some 52) rfl rfl Tryd.func137 (by kernel_rfl) rfl #[.pointer (some ⟨g, 0, none⟩), .int .u8 32] rfl (by (try simp only [List.map_toArray, List.map_cons, List.map_nil]); first | done | rfl) ?_
           have XC := Aside0.mk (Y1.out.cut (s' := s) (m := s.word.length) (by simp) (push_cut s 32))
           (with_reducible refine (version_calls base _ g s (.slice A1 s.word.length cp1) u1 32 XC.out.rd).mono ?_)
           rintro e w3 ⟨rfl, hd⟩
           have X3 := Aside0.mk (XC.out.on hd)
           have g3 := blk_frozen X3.out.rd.blk 3
           have k3 : w3.cell? ⟨g, 3, none⟩ = some (.slice A1 s.word.length cp1) := (blk_cell X3.out.rd.blk 3).trans rfl
           clear hd
           refine ⟨_, rfl, ?_⟩)
        | ((with_reducible refine gate_builtin (b := .append) (xs := #[.tmp 57, .tmp 59]) rfl ?_); at_builtin
           refine Kd.R_append (Kd.int .u8) (w0 := w3) base rfl (.tmp 57) (.tmp 59) 25 5 (.int .u8 0) 1 rfl Tryd.underlying25 info5 rfl (by decide) (by omega) (.slice A1 s.word.length cp1) s.word 32 [.int .u8 32] (fun _ => True) (fun _ => False) rfl rfl ?aP (fun _ hk => hk.elim) (fun _ _ => trivial) ?aO ?aB ?aS ?aL ?_
           case aP => exact rfl
           case aO => exact X3.out.rd.word
           case aB => exact Below.refl _ _
           case aS => exact X3.out.rd.size
           case aL => omega
           intro x1 w4 ho hb hg hat
           obtain ⟨A4, cp4, ex1, hcp4, _⟩ := Kd.R_reads ho
           rw [List.length_append, List.length_singleton] at ex1 hcp4
           subst ex1
           have Y4 := Aside0.mk (X3.out.grow ho hb hg hat)
           have f34 := blk_frozen (blk_grown X3.out.rd.blk hg (Kd.R_ne X3.out.rd.word X3.out.rd.blk (by decide))) 3
           have e34 : w4.cell? ⟨g, 3, none⟩ = some (.slice A1 s.word.length cp1) := (blk_cell (blk_grown X3.out.rd.blk hg (Kd.R_ne X3.out.rd.word X3.out.rd.blk (by decide))) 3).trans rfl
           have f24 := blk_frozen (blk_grown X3.out.rd.blk hg (Kd.R_ne X3.out.rd.word X3.out.rd.blk (by decide))) 2
           have e24 : w4.cell? ⟨g, 2, none⟩ = some (.int .i64 s.at_) := (blk_cell (blk_grown X3.out.rd.blk hg (Kd.R_ne X3.out.rd.word X3.out.rd.blk (by decide))) 2).trans rfl
           clear ho hb hg hat
           )
        )
      go_ret
      first | exact ⟨_, rfl, Y4.out⟩ | exact ⟨rfl, _, Y4.out⟩
  · rw [if_neg (fun x => c2 x.1)]
    have d3 : (c == 32) = false := by simpa using c2
    go_wp2_with (first
      | ((with_reducible refine gate_builtin (b := .append) (xs := #[.tmp 16, .tmp 18]) rfl ?_); at_builtin
         refine Kd.R_append (Kd.int .u8) (w0 := w) base rfl (.tmp 16) (.tmp 18) 25 5 (.int .u8 0) 1 rfl Tryd.underlying25 info5 rfl (by decide) (by omega) (.slice A s.word.length cp) s.word c [.int .u8 c] (fun _ => True) (fun _ => False) rfl rfl ?aP (fun _ hk => hk.elim) (fun _ _ => trivial) ?aO ?aB ?aS ?aL ?_
         case aP => exact rfl
         case aO => exact X.out.rd.word
         case aB => exact Below.refl _ _
         case aS => exact X.out.rd.size
         case aL => omega
         intro x1 w1 ho hb hg hat
         obtain ⟨A1, cp1, ex1, hcp1, _⟩ := Kd.R_reads ho
         rw [List.length_append, List.length_singleton] at ex1 hcp1
         subst ex1
         have Y1 := Aside0.mk (X.out.grow ho hb hg hat)
         have f31 := blk_frozen (blk_grown X.out.rd.blk hg (Kd.R_ne X.out.rd.word X.out.rd.blk (by decide))) 3
         have e31 : w1.cell? ⟨g, 3, none⟩ = some (.slice A s.word.length cp) := (blk_cell (blk_grown X.out.rd.blk hg (Kd.R_ne X.out.rd.word X.out.rd.blk (by decide))) 3).trans rfl
         have f21 := blk_frozen (blk_grown X.out.rd.blk hg (Kd.R_ne X.out.rd.word X.out.rd.blk (by decide))) 2
         have e21 : w1.cell? ⟨g, 2, none⟩ = some (.int .i64 s.at_) := (blk_cell (blk_grown X.out.rd.blk hg (Kd.R_ne X.out.rd.word X.out.rd.blk (by decide))) 2).trans rfl
         clear ho hb hg hat
         )
      | ((with_reducible refine gate_callee (f := 137) rfl ?_)
         refine goesL_ (some 52) rfl rfl Tryd.func137 (by kernel_rfl) rfl #[.pointer (some ⟨g, 0, none⟩), .int .u8 c] rfl (by (try simp only [List.map_toArray, List.map_cons, List.map_nil]); first | done | rfl) ?_
         have XC := Aside0.mk (Y1.out.cut (s' := s) (m := s.word.length) (by simp) (push_cut s c))
         (with_reducible refine (version_calls base _ g s (.slice A1 s.word.length cp1) u1 c XC.out.rd).mono ?_)
         rintro e w3 ⟨rfl, hd⟩
         have X3 := Aside0.mk (XC.out.on hd)
         have g3 := blk_frozen X3.out.rd.blk 3
         have k3 : w3.cell? ⟨g, 3, none⟩ = some (.slice A1 s.word.length cp1) := (blk_cell X3.out.rd.blk 3).trans rfl
         clear hd
         refine ⟨_, rfl, ?_⟩)
      | ((with_reducible refine gate_builtin (b := .append) (xs := #[.tmp 57, .tmp 59]) rfl ?_); at_builtin
         refine Kd.R_append (Kd.int .u8) (w0 := w3) base rfl (.tmp 57) (.tmp 59) 25 5 (.int .u8 0) 1 rfl Tryd.underlying25 info5 rfl (by decide) (by omega) (.slice A1 s.word.length cp1) s.word c [.int .u8 c] (fun _ => True) (fun _ => False) rfl rfl ?aP (fun _ hk => hk.elim) (fun _ _ => trivial) ?aO ?aB ?aS ?aL ?_
         case aP => exact rfl
         case aO => exact X3.out.rd.word
         case aB => exact Below.refl _ _
         case aS => exact X3.out.rd.size
         case aL => omega
         intro x1 w4 ho hb hg hat
         obtain ⟨A4, cp4, ex1, hcp4, _⟩ := Kd.R_reads ho
         rw [List.length_append, List.length_singleton] at ex1 hcp4
         subst ex1
         have Y4 := Aside0.mk (X3.out.grow ho hb hg hat)
         have f34 := blk_frozen (blk_grown X3.out.rd.blk hg (Kd.R_ne X3.out.rd.word X3.out.rd.blk (by decide))) 3
         have e34 : w4.cell? ⟨g, 3, none⟩ = some (.slice A1 s.word.length cp1) := (blk_cell (blk_grown X3.out.rd.blk hg (Kd.R_ne X3.out.rd.word X3.out.rd.blk (by decide))) 3).trans rfl
         have f24 := blk_frozen (blk_grown X3.out.rd.blk hg (Kd.R_ne X3.out.rd.word X3.out.rd.blk (by decide))) 2
         have e24 : w4.cell? ⟨g, 2, none⟩ = some (.int .i64 s.at_) := (blk_cell (blk_grown X3.out.rd.blk hg (Kd.R_ne X3.out.rd.word X3.out.rd.blk (by decide))) 2).trans rfl
         clear ho hb hg hat
         )
      )
    go_ret
    first | exact ⟨_, rfl, Y4.out⟩ | exact ⟨rfl, _, Y4.out⟩
theorem statusLine4 (base : Nat) (w : World) (g : Nat) (s : RdSt) (u0 u1 : Value) (c : Int) (hc0 : 0 ≤ c) (hc1 : c ≤ 255) (hl : s.word.length ≤ 1000000) (h : Rd base w g s u0 u1) (c1 : ¬s.at_ = 3) (c0 : s.at_ = 4) :
    Calls Tryd.prog 121 #[.pointer (some ⟨g, 0, none⟩), .int .u8 c] w fun e w' => ∃ v0, e = .returned (.bool (s.statLine c).2) ∧ St base w g u0 u1 w' (s.statLine c).1 v0 u1 := by
  obtain ⟨A, cp, rfl, hcl, hc⟩ := Kd.R_reads h.word
  have e2 : w.cell? ⟨g, 2, none⟩ = some (.int .i64 s.at_) := (blk_cell h.blk 2).trans rfl
  have e3 : w.cell? ⟨g, 3, none⟩ = some (.slice A s.word.length cp) := (blk_cell h.blk 3).trans rfl
  have f2 := blk_frozen h.blk 2
  have f3 := blk_frozen h.blk 3
  have X := Aside0.mk h.st
  have hl0 : (0 : Int) ≤ (s.word.length : Int) := by omega
  have hl0d := decide_eq_true hl0
  clear h hc
  unfold RdSt.statLine
  go_enter Tryd.func121, Tryd.ntmps121
  rw [if_neg c1, if_pos c0]
  have d1 : (s.at_ == 3) = false := by simpa using c1
  have d0 : (s.at_ == 4) = true := by simpa using c0
  by_cases c3 : s.word.length = 3
  · rw [if_pos c3]
    have d3 : ((s.word.length : Int) == 3) = true := by rw [c3]; rfl
    have C3 := Aside0.mk c3
    have hs8 : (strOfNums s.word).size ≤ 9223372036854775807 := by
      rw [strOfNums_size]
      omega
    obtain ⟨kd, hD⟩ := Ev.get (decimal_ev (strOfNums s.word) hs8 999 (by decide))
    have HD := Aside0.mk hD
    clear hD hs8
    clear c3
    go_wp2_with (first
      | ((with_reducible refine gate_builtin (b := .append) (xs := #[.tmp 16, .tmp 18]) rfl ?_); at_builtin
         refine Kd.R_append (Kd.int .u8) (w0 := w) base rfl (.tmp 16) (.tmp 18) 25 5 (.int .u8 0) 1 rfl Tryd.underlying25 info5 rfl (by decide) (by omega) (.slice A s.word.length cp) s.word c [.int .u8 c] (fun _ => True) (fun _ => False) rfl rfl ?aP (fun _ hk => hk.elim) (fun _ _ => trivial) ?aO ?aB ?aS ?aL ?_
         case aP => exact rfl
         case aO => exact X.out.rd.word
         case aB => exact Below.refl _ _
         case aS => exact X.out.rd.size
         case aL => omega
         intro x1 w1 ho hb hg hat
         obtain ⟨A1, cp1, ex1, hcp1, _⟩ := Kd.R_reads ho
         rw [List.length_append, List.length_singleton] at ex1 hcp1
         subst ex1
         have Y1 := Aside0.mk (X.out.grow ho hb hg hat)
         have f31 := blk_frozen (blk_grown X.out.rd.blk hg (Kd.R_ne X.out.rd.word X.out.rd.blk (by decide))) 3
         have e31 : w1.cell? ⟨g, 3, none⟩ = some (.slice A s.word.length cp) := (blk_cell (blk_grown X.out.rd.blk hg (Kd.R_ne X.out.rd.word X.out.rd.blk (by decide))) 3).trans rfl
         have f21 := blk_frozen (blk_grown X.out.rd.blk hg (Kd.R_ne X.out.rd.word X.out.rd.blk (by decide))) 2
         have e21 : w1.cell? ⟨g, 2, none⟩ = some (.int .i64 s.at_) := (blk_cell (blk_grown X.out.rd.blk hg (Kd.R_ne X.out.rd.word X.out.rd.blk (by decide))) 2).trans rfl
         clear ho hb hg hat
         have q3 : 3 ≤ cp1 := by have := C3.out; omega
         have q3i : (3 : Int) ≤ (cp1 : Int) := by omega
         have q3d := decide_eq_true q3i
         )
      | ((with_reducible refine gate_callee (f := 135) rfl ?_)
         refine goesL_ (some 79) rfl rfl Tryd.func135 (by kernel_rfl) rfl #[.pointer (some ⟨g, 0, none⟩), .int .i64 5] rfl (by (try simp only [List.map_toArray, List.map_cons, List.map_nil]); first | done | rfl) ?_
         have XC := Aside0.mk (Y1.out.cut (s' := s) (m := 3) (by have := C3.out; simp; omega) (by have := push_cut s c; rw [C3.out] at this; exact this))
         (with_reducible refine (take_calls base _ g s (.slice A1 3 cp1) u1 5 XC.out.rd).mono ?_)
         rintro e w3 ⟨x3, rfl, hd⟩
         have X3 := Aside0.mk (XC.out.trans hd)
         clear hd
         refine ⟨_, rfl, ?_⟩)
      | ((with_reducible refine gate_callee (f := 138) rfl ?_)
         refine goesL_ (some 80) rfl rfl Tryd.func138 (by kernel_rfl) rfl #[.string (strOfNums s.word), .int .i64 999] rfl (by (try simp only [List.map_toArray, List.map_cons, List.map_nil]); first | done | rfl) ?_
         (with_reducible refine (chars_Decimal.calls kd (strOfNums s.word) 999 _ _ _ HD.out).mono ?_)
         rintro e w2 ⟨rfl, hd⟩
         have Z := Aside0.mk (X3.out.on hd.below)
         have g10 := blk_frozen Z.out.rd.blk 10
         have k10 : w2.cell? ⟨g, 10, none⟩ = some (.int .i64 s.ps) := (blk_cell Z.out.rd.blk 10).trans rfl
         clear hd
         refine ⟨_, rfl, ?_⟩))
    go_ret
    first | exact ⟨_, rfl, Z.out.put 10 _ (s' := {s.taken 5 with ps := decOf s.word}) rfl rfl rfl⟩ | exact ⟨rfl, _, Z.out.put 10 _ (s' := {s.taken 5 with ps := decOf s.word}) rfl rfl rfl⟩
  · rw [if_neg c3]
    have d3 : ((s.word.length : Int) == 3) = false := by
      refine beq_eq_false_iff_ne.mpr (fun x => c3 (by omega))
    clear hl0 hl0d
    cases hb : digB c with
    | false =>
      have HB := Aside0.mk hb
      clear hb
      rw [Bool.false_and]
      go_wp2_with (first
        | ((with_reducible refine gate_builtin (b := .append) (xs := #[.tmp 16, .tmp 18]) rfl ?_); at_builtin
           refine Kd.R_append (Kd.int .u8) (w0 := w) base rfl (.tmp 16) (.tmp 18) 25 5 (.int .u8 0) 1 rfl Tryd.underlying25 info5 rfl (by decide) (by omega) (.slice A s.word.length cp) s.word c [.int .u8 c] (fun _ => True) (fun _ => False) rfl rfl ?aP (fun _ hk => hk.elim) (fun _ _ => trivial) ?aO ?aB ?aS ?aL ?_
           case aP => exact rfl
           case aO => exact X.out.rd.word
           case aB => exact Below.refl _ _
           case aS => exact X.out.rd.size
           case aL => omega
           intro x1 w1 ho hb hg hat
           obtain ⟨A1, cp1, ex1, hcp1, _⟩ := Kd.R_reads ho
           rw [List.length_append, List.length_singleton] at ex1 hcp1
           subst ex1
           have Y1 := Aside0.mk (X.out.grow ho hb hg hat)
           have f31 := blk_frozen (blk_grown X.out.rd.blk hg (Kd.R_ne X.out.rd.word X.out.rd.blk (by decide))) 3
           have e31 : w1.cell? ⟨g, 3, none⟩ = some (.slice A s.word.length cp) := (blk_cell (blk_grown X.out.rd.blk hg (Kd.R_ne X.out.rd.word X.out.rd.blk (by decide))) 3).trans rfl
           have f21 := blk_frozen (blk_grown X.out.rd.blk hg (Kd.R_ne X.out.rd.word X.out.rd.blk (by decide))) 2
           have e21 : w1.cell? ⟨g, 2, none⟩ = some (.int .i64 s.at_) := (blk_cell (blk_grown X.out.rd.blk hg (Kd.R_ne X.out.rd.word X.out.rd.blk (by decide))) 2).trans rfl
           clear ho hb hg hat
           )
        | ((with_reducible refine gate_callee (f := 94) rfl ?_)
           refine goesL_ (some 89) rfl rfl Tryd.func94 (by kernel_rfl) rfl #[.int .u8 c] rfl (by (try simp only [List.map_toArray, List.map_cons, List.map_nil]); first | done | rfl) ?_
           (with_reducible refine (chars_Digit.calls c false _ (digB_f' c false HB.out)).mono ?_)
           rintro e w2 ⟨rfl, hd⟩
           have Z := Aside0.mk (Y1.out.on hd.below)
           clear hd
           refine ⟨_, rfl, ?_⟩))
      go_ret
      first | exact ⟨_, rfl, Z.out⟩ | exact ⟨rfl, _, Z.out⟩
    | true =>
      have HB := Aside0.mk hb
      clear hb
      rw [Bool.true_and]
      by_cases z : 0 < s.word.length
      · rw [decide_eq_true z, Bool.true_or]
        have z1 : decide ((s.word.length : Int) > 0) = true := decide_eq_true (by omega)
        go_wp2_with (first
          | ((with_reducible refine gate_builtin (b := .append) (xs := #[.tmp 16, .tmp 18]) rfl ?_); at_builtin
             refine Kd.R_append (Kd.int .u8) (w0 := w) base rfl (.tmp 16) (.tmp 18) 25 5 (.int .u8 0) 1 rfl Tryd.underlying25 info5 rfl (by decide) (by omega) (.slice A s.word.length cp) s.word c [.int .u8 c] (fun _ => True) (fun _ => False) rfl rfl ?aP (fun _ hk => hk.elim) (fun _ _ => trivial) ?aO ?aB ?aS ?aL ?_
             case aP => exact rfl
             case aO => exact X.out.rd.word
             case aB => exact Below.refl _ _
             case aS => exact X.out.rd.size
             case aL => omega
             intro x1 w1 ho hb hg hat
             obtain ⟨A1, cp1, ex1, hcp1, _⟩ := Kd.R_reads ho
             rw [List.length_append, List.length_singleton] at ex1 hcp1
             subst ex1
             have Y1 := Aside0.mk (X.out.grow ho hb hg hat)
             have f31 := blk_frozen (blk_grown X.out.rd.blk hg (Kd.R_ne X.out.rd.word X.out.rd.blk (by decide))) 3
             have e31 : w1.cell? ⟨g, 3, none⟩ = some (.slice A s.word.length cp) := (blk_cell (blk_grown X.out.rd.blk hg (Kd.R_ne X.out.rd.word X.out.rd.blk (by decide))) 3).trans rfl
             have f21 := blk_frozen (blk_grown X.out.rd.blk hg (Kd.R_ne X.out.rd.word X.out.rd.blk (by decide))) 2
             have e21 : w1.cell? ⟨g, 2, none⟩ = some (.int .i64 s.at_) := (blk_cell (blk_grown X.out.rd.blk hg (Kd.R_ne X.out.rd.word X.out.rd.blk (by decide))) 2).trans rfl
             clear ho hb hg hat
             )
          | ((with_reducible refine gate_callee (f := 94) rfl ?_)
             refine goesL_ (some 89) rfl rfl Tryd.func94 (by kernel_rfl) rfl #[.int .u8 c] rfl (by (try simp only [List.map_toArray, List.map_cons, List.map_nil]); first | done | rfl) ?_
             (with_reducible refine (chars_Digit.calls c true _ (digB_f' c true HB.out)).mono ?_)
             rintro e w2 ⟨rfl, hd⟩
             have Z := Aside0.mk (Y1.out.on hd.below)
             clear hd
             refine ⟨_, rfl, ?_⟩))
        go_ret
        first | exact ⟨_, rfl, Z.out⟩ | exact ⟨rfl, _, Z.out⟩
      · rw [decide_eq_false z, Bool.false_or]
        have z1 : decide ((s.word.length : Int) > 0) = false := decide_eq_false (by omega)
        by_cases y : 49 ≤ c
        · rw [decide_eq_true y, Bool.true_and]
          have y1 : decide (c ≥ 49) = true := decide_eq_true y
          clear y
          go_wp2_with (first
            | ((with_reducible refine gate_builtin (b := .append) (xs := #[.tmp 16, .tmp 18]) rfl ?_); at_builtin
               refine Kd.R_append (Kd.int .u8) (w0 := w) base rfl (.tmp 16) (.tmp 18) 25 5 (.int .u8 0) 1 rfl Tryd.underlying25 info5 rfl (by decide) (by omega) (.slice A s.word.length cp) s.word c [.int .u8 c] (fun _ => True) (fun _ => False) rfl rfl ?aP (fun _ hk => hk.elim) (fun _ _ => trivial) ?aO ?aB ?aS ?aL ?_
               case aP => exact rfl
               case aO => exact X.out.rd.word
               case aB => exact Below.refl _ _
               case aS => exact X.out.rd.size
               case aL => omega
               intro x1 w1 ho hb hg hat
               obtain ⟨A1, cp1, ex1, hcp1, _⟩ := Kd.R_reads ho
               rw [List.length_append, List.length_singleton] at ex1 hcp1
               subst ex1
               have Y1 := Aside0.mk (X.out.grow ho hb hg hat)
               have f31 := blk_frozen (blk_grown X.out.rd.blk hg (Kd.R_ne X.out.rd.word X.out.rd.blk (by decide))) 3
               have e31 : w1.cell? ⟨g, 3, none⟩ = some (.slice A s.word.length cp) := (blk_cell (blk_grown X.out.rd.blk hg (Kd.R_ne X.out.rd.word X.out.rd.blk (by decide))) 3).trans rfl
               have f21 := blk_frozen (blk_grown X.out.rd.blk hg (Kd.R_ne X.out.rd.word X.out.rd.blk (by decide))) 2
               have e21 : w1.cell? ⟨g, 2, none⟩ = some (.int .i64 s.at_) := (blk_cell (blk_grown X.out.rd.blk hg (Kd.R_ne X.out.rd.word X.out.rd.blk (by decide))) 2).trans rfl
               clear ho hb hg hat
               )
            | ((with_reducible refine gate_callee (f := 94) rfl ?_)
               refine goesL_ (some 89) rfl rfl Tryd.func94 (by kernel_rfl) rfl #[.int .u8 c] rfl (by (try simp only [List.map_toArray, List.map_cons, List.map_nil]); first | done | rfl) ?_
               (with_reducible refine (chars_Digit.calls c true _ (digB_f' c true HB.out)).mono ?_)
               rintro e w2 ⟨rfl, hd⟩
               have Z := Aside0.mk (Y1.out.on hd.below)
               clear hd
               refine ⟨_, rfl, ?_⟩))
          go_ret
          first | exact ⟨_, rfl, Z.out⟩ | exact ⟨rfl, _, Z.out⟩
        · rw [decide_eq_false y, Bool.false_and]
          have y1 : decide (c ≥ 49) = false := decide_eq_false y
          clear y
          go_wp2_with (first
            | ((with_reducible refine gate_builtin (b := .append) (xs := #[.tmp 16, .tmp 18]) rfl ?_); at_builtin
               refine Kd.R_append (Kd.int .u8) (w0 := w) base rfl (.tmp 16) (.tmp 18) 25 5 (.int .u8 0) 1 rfl Tryd.underlying25 info5 rfl (by decide) (by omega) (.slice A s.word.length cp) s.word c [.int .u8 c] (fun _ => True) (fun _ => False) rfl rfl ?aP (fun _ hk => hk.elim) (fun _ _ => trivial) ?aO ?aB ?aS ?aL ?_
               case aP => exact rfl
               case aO => exact X.out.rd.word
               case aB => exact Below.refl _ _
               case aS => exact X.out.rd.size
               case aL => omega
               intro x1 w1 ho hb hg hat
               obtain ⟨A1, cp1, ex1, hcp1, _⟩ := Kd.R_reads ho
               rw [List.length_append, List.length_singleton] at ex1 hcp1
               subst ex1
               have Y1 := Aside0.mk (X.out.grow ho hb hg hat)
               have f31 := blk_frozen (blk_grown X.out.rd.blk hg (Kd.R_ne X.out.rd.word X.out.rd.blk (by decide))) 3
               have e31 : w1.cell? ⟨g, 3, none⟩ = some (.slice A s.word.length cp) := (blk_cell (blk_grown X.out.rd.blk hg (Kd.R_ne X.out.rd.word X.out.rd.blk (by decide))) 3).trans rfl
               have f21 := blk_frozen (blk_grown X.out.rd.blk hg (Kd.R_ne X.out.rd.word X.out.rd.blk (by decide))) 2
               have e21 : w1.cell? ⟨g, 2, none⟩ = some (.int .i64 s.at_) := (blk_cell (blk_grown X.out.rd.blk hg (Kd.R_ne X.out.rd.word X.out.rd.blk (by decide))) 2).trans rfl
               clear ho hb hg hat
               )
            | ((with_reducible refine gate_callee (f := 94) rfl ?_)
               refine goesL_ (some 89) rfl rfl Tryd.func94 (by kernel_rfl) rfl #[.int .u8 c] rfl (by (try simp only [List.map_toArray, List.map_cons, List.map_nil]); first | done | rfl) ?_
               (with_reducible refine (chars_Digit.calls c true _ (digB_f' c true HB.out)).mono ?_)
               rintro e w2 ⟨rfl, hd⟩
               have Z := Aside0.mk (Y1.out.on hd.below)
               clear hd
               refine ⟨_, rfl, ?_⟩))
          go_ret
          first | exact ⟨_, rfl, Z.out⟩ | exact ⟨rfl, _, Z.out⟩
theorem statusLine5 (base : Nat) (w : World) (g : Nat) (s : RdSt) (u0 u1 : Value) (c : Int) (hc0 : 0 ≤ c) (hc1 : c ≤ 255) (hl : s.word.length ≤ 1000000) (h : Rd base w g s u0 u1) (c1 : ¬s.at_ = 3) (c0 : ¬s.at_ = 4) :
    Calls Tryd.prog 121 #[.pointer (some ⟨g, 0, none⟩), .int .u8 c] w fun e w' => ∃ v0, e = .returned (.bool (s.statLine c).2) ∧ St base w g u0 u1 w' (s.statLine c).1 v0 u1 := by
  obtain ⟨A, cp, rfl, hcl, hc⟩ := Kd.R_reads h.word
  have e2 : w.cell? ⟨g, 2, none⟩ = some (.int .i64 s.at_) := (blk_cell h.blk 2).trans rfl
  have e3 : w.cell? ⟨g, 3, none⟩ = some (.slice A s.word.length cp) := (blk_cell h.blk 3).trans rfl
  have f2 := blk_frozen h.blk 2
  have f3 := blk_frozen h.blk 3
  have X := Aside0.mk h.st
  have hl0 : (0 : Int) ≤ (s.word.length : Int) := by omega
  have hl0d := decide_eq_true hl0
  clear h hc
  unfold RdSt.statLine
  go_enter Tryd.func121, Tryd.ntmps121
  rw [if_neg c1, if_neg c0]
  have d1 : (s.at_ == 3) = false := by simpa using c1
  have d0 : (s.at_ == 4) = false := by simpa using c0
  by_cases c2 : c = 13
  · subst c2
    rw [if_pos rfl]
    go_wp2_with (first
      | ((with_reducible refine gate_builtin (b := .append) (xs := #[.tmp 16, .tmp 18]) rfl ?_); at_builtin
         refine Kd.R_append (Kd.int .u8) (w0 := w) base rfl (.tmp 16) (.tmp 18) 25 5 (.int .u8 0) 1 rfl Tryd.underlying25 info5 rfl (by decide) (by omega) (.slice A s.word.length cp) s.word 13 [.int .u8 13] (fun _ => True) (fun _ => False) rfl rfl ?aP (fun _ hk => hk.elim) (fun _ _ => trivial) ?aO ?aB ?aS ?aL ?_
         case aP => exact rfl
         case aO => exact X.out.rd.word
         case aB => exact Below.refl _ _
         case aS => exact X.out.rd.size
         case aL => omega
         intro x1 w1 ho hb hg hat
         obtain ⟨A1, cp1, ex1, hcp1, _⟩ := Kd.R_reads ho
         rw [List.length_append, List.length_singleton] at ex1 hcp1
         subst ex1
         have Y1 := Aside0.mk (X.out.grow ho hb hg hat)
         have f31 := blk_frozen (blk_grown X.out.rd.blk hg (Kd.R_ne X.out.rd.word X.out.rd.blk (by decide))) 3
         have e31 : w1.cell? ⟨g, 3, none⟩ = some (.slice A s.word.length cp) := (blk_cell (blk_grown X.out.rd.blk hg (Kd.R_ne X.out.rd.word X.out.rd.blk (by decide))) 3).trans rfl
         have f21 := blk_frozen (blk_grown X.out.rd.blk hg (Kd.R_ne X.out.rd.word X.out.rd.blk (by decide))) 2
         have e21 : w1.cell? ⟨g, 2, none⟩ = some (.int .i64 s.at_) := (blk_cell (blk_grown X.out.rd.blk hg (Kd.R_ne X.out.rd.word X.out.rd.blk (by decide))) 2).trans rfl
         clear ho hb hg hat
         )
      | ((with_reducible refine gate_callee (f := 135) rfl ?_)
         refine goesL_ (some 115) rfl rfl Tryd.func135 (by kernel_rfl) rfl #[.pointer (some ⟨g, 0, none⟩), .int .i64 6] rfl (by (try simp only [List.map_toArray, List.map_cons, List.map_nil]); first | done | rfl) ?_
         have XC := Aside0.mk (Y1.out.cut (s' := s) (m := s.word.length) (by simp) (push_cut s 13))
         (with_reducible refine (take_calls base _ g s (.slice A1 s.word.length cp1) u1 6 XC.out.rd).mono ?_)
         rintro e w3 ⟨x3, rfl, hd⟩
         have Z := Aside0.mk (XC.out.trans hd)
         have g11 := blk_frozen Z.out.rd.blk 11
         have k11 : w3.cell? ⟨g, 11, none⟩ = some (.string s.pr) := (blk_cell Z.out.rd.blk 11).trans rfl
         clear hd
         refine ⟨_, rfl, ?_⟩))
    go_ret
    exact ⟨rfl, _, Z.out.put 11 _ (s' := {s.taken 6 with pr := strOfNums s.word}) rfl rfl rfl⟩
  · rw [if_neg c2]
    have d3 : (c == 13) = false := by simpa using c2
    go_wp2_with (first
      | ((with_reducible refine gate_builtin (b := .append) (xs := #[.tmp 16, .tmp 18]) rfl ?_); at_builtin
         refine Kd.R_append (Kd.int .u8) (w0 := w) base rfl (.tmp 16) (.tmp 18) 25 5 (.int .u8 0) 1 rfl Tryd.underlying25 info5 rfl (by decide) (by omega) (.slice A s.word.length cp) s.word c [.int .u8 c] (fun _ => True) (fun _ => False) rfl rfl ?aP (fun _ hk => hk.elim) (fun _ _ => trivial) ?aO ?aB ?aS ?aL ?_
         case aP => exact rfl
         case aO => exact X.out.rd.word
         case aB => exact Below.refl _ _
         case aS => exact X.out.rd.size
         case aL => omega
         intro x1 w1 ho hb hg hat
         obtain ⟨A1, cp1, ex1, hcp1, _⟩ := Kd.R_reads ho
         rw [List.length_append, List.length_singleton] at ex1 hcp1
         subst ex1
         have Y1 := Aside0.mk (X.out.grow ho hb hg hat)
         have f31 := blk_frozen (blk_grown X.out.rd.blk hg (Kd.R_ne X.out.rd.word X.out.rd.blk (by decide))) 3
         have e31 : w1.cell? ⟨g, 3, none⟩ = some (.slice A s.word.length cp) := (blk_cell (blk_grown X.out.rd.blk hg (Kd.R_ne X.out.rd.word X.out.rd.blk (by decide))) 3).trans rfl
         have f21 := blk_frozen (blk_grown X.out.rd.blk hg (Kd.R_ne X.out.rd.word X.out.rd.blk (by decide))) 2
         have e21 : w1.cell? ⟨g, 2, none⟩ = some (.int .i64 s.at_) := (blk_cell (blk_grown X.out.rd.blk hg (Kd.R_ne X.out.rd.word X.out.rd.blk (by decide))) 2).trans rfl
         clear ho hb hg hat
         )
      | ((with_reducible refine gate_callee (f := 52) rfl ?_)
         refine goesL_ (some 120) rfl rfl Tryd.func52 (by kernel_rfl) rfl #[.int .u8 c] rfl (by (try simp only [List.map_toArray, List.map_cons, List.map_nil]); first | done | rfl) ?_
         (with_reducible refine (chars_Value.calls c _ _ (val_f c)).mono ?_)
         rintro e w2 ⟨rfl, hd⟩
         have Z := Aside0.mk (Y1.out.on hd.below)
         clear hd
         refine ⟨_, rfl, ?_⟩))
    go_ret
    first | exact ⟨_, rfl, Z.out⟩ | exact ⟨rfl, _, Z.out⟩
theorem statusLine_calls (base : Nat) (w : World) (g : Nat) (s : RdSt) (u0 u1 : Value) (c : Int) (hc0 : 0 ≤ c) (hc1 : c ≤ 255) (hl : s.word.length ≤ 1000000) (h : Rd base w g s u0 u1) :
    Calls Tryd.prog 121 #[.pointer (some ⟨g, 0, none⟩), .int .u8 c] w fun e w' => ∃ v0, e = .returned (.bool (s.statLine c).2) ∧ St base w g u0 u1 w' (s.statLine c).1 v0 u1 := by
  by_cases c1 : s.at_ = 3
  · exact statusLine3 base w g s u0 u1 c hc0 hc1 hl h c1
  · by_cases c0 : s.at_ = 4
    · exact statusLine4 base w g s u0 u1 c hc0 hc1 hl h c1 c0
    · exact statusLine5 base w g s u0 u1 c hc0 hc1 hl h c1 c0
end Go.Proofs.YtdmbgbennlnpcaaDoor.Hd
namespace Go.Proofs.YtdmbgbennlnpcaaDoor.Hd
open Go.RowKit Go.Proofs.YtdmbgbennlnpcaaDoorW.PrintWords Go.Proofs.YtdmbgbennlnpcaaDoorW.PrintLast Go.Proofs.YtdmbgbennlnpcaaDoorW.PrintMore
set_option linter.unusedVariables false
set_option linter.unusedSimpArgs false
def trR (p : UInt8 → Bool) (l : List UInt8) : List UInt8 := (l.reverse.dropWhile p).reverse
def trL (p : UInt8 → Bool) (l : List UInt8) : List UInt8 := l.dropWhile p
def blk (b : UInt8) : Bool := [32, 9].contains b
def trm (l : List UInt8) : List UInt8 := trL blk (trR blk l)
theorem trR_cons (p : UInt8 → Bool) (b : UInt8) (l : List UInt8) : trR p (b :: l) = if p b = true ∧ trR p l = [] then [] else b :: trR p l := by
  unfold trR
  rw [List.reverse_cons, List.dropWhile_append]
  by_cases h : (l.reverse.dropWhile p).isEmpty = true
  · have h' : l.reverse.dropWhile p = [] := by simpa using h
    rw [if_pos h]
    cases hb : p b <;> simp [h', hb, List.dropWhile]
  · rw [if_neg h]
    have h' : ¬ l.reverse.dropWhile p = [] := by simpa using h
    simp [h']
theorem trim_f (s : ByteArray) (hs : s.size ≤ 9223372036854775807) : chars_Trim.f s = some ⟨(trm s.data.toList).toArray⟩ := by
  unfold chars_Trim.f strings_Trim.f
  rw [if_pos ⟨hs, by decide, by decide⟩]
  rfl
end Go.Proofs.YtdmbgbennlnpcaaDoor.Hd
namespace Go.Proofs.YtdmbgbennlnpcaaDoor.Hd
open Go.RowKit Go.Proofs.YtdmbgbennlnpcaaDoorW.PrintWords Go.Proofs.YtdmbgbennlnpcaaDoorW.PrintLast Go.Proofs.YtdmbgbennlnpcaaDoorW.PrintMore
set_option linter.unusedVariables false
set_option linter.unusedSimpArgs false
attribute [local go_sem ↓] Go.wp_at_zero Go.wp_at_succ
set_option maxRecDepth 8000
def trimOf (word : List Int) : ByteArray := ⟨(trm (strOfNums word).data.toList).toArray⟩
def RdSt.fldLine (s : RdSt) (c : Int) : RdSt × Bool :=
  if s.at_ = 7 then
    (if c = 13 ∧ s.word.length = 0 then ({s with at_ := 10}, true) else if c = 58 ∧ 0 < s.word.length then ({s.taken 8 with name := strOfNums s.word}, true) else (s.push c, isTok c))
  else if s.at_ = 8 then (if c = 13 then ({s with at_ := 9}, true) else (s.push c, isVal c))
  else if s.at_ = 9 then ({s.taken 7 with field := s.field ++ [⟨s.name, trimOf s.word⟩]}, c == 10)
  else ({s with at_ := 11}, c == 10)
theorem fieldLine7 (base : Nat) (w : World) (g : Nat) (s : RdSt) (u0 u1 : Value) (c : Int) (hc0 : 0 ≤ c) (hc1 : c ≤ 255) (hl : s.word.length ≤ 1000000) (hfl : s.field.length ≤ 1000000) (h : Rd base w g s u0 u1) (c1 : s.at_ = 7) :
    Calls Tryd.prog 119 #[.pointer (some ⟨g, 0, none⟩), .int .u8 c] w fun e w' => ∃ v0 v1, e = .returned (.bool (s.fldLine c).2) ∧ St base w g u0 u1 w' (s.fldLine c).1 v0 v1 := by
  obtain ⟨A, cp, rfl, hcl, hc⟩ := Kd.R_reads h.word
  obtain ⟨A', cp', rfl, hcl', _⟩ := Kd.R_reads h.field
  have e2 : w.cell? ⟨g, 2, none⟩ = some (.int .i64 s.at_) := (blk_cell h.blk 2).trans rfl
  have e3 : w.cell? ⟨g, 3, none⟩ = some (.slice A s.word.length cp) := (blk_cell h.blk 3).trans rfl
  have e14 : w.cell? ⟨g, 14, none⟩ = some (.string s.name) := (blk_cell h.blk 14).trans rfl
  have e15 : w.cell? ⟨g, 15, none⟩ = some (.slice A' s.field.length cp') := (blk_cell h.blk 15).trans rfl
  have f2 := blk_frozen h.blk 2
  have f3 := blk_frozen h.blk 3
  have f14 := blk_frozen h.blk 14
  have f15 := blk_frozen h.blk 15
  have X := Aside0.mk h.st
  clear h hc
  unfold RdSt.fldLine
  go_enter Tryd.func119, Tryd.ntmps119
  rw [if_pos c1]
  have d1 : (s.at_ == 7) = true := by simpa using c1
  by_cases c2 : c = 13
  · subst c2
    by_cases c3 : s.word.length = 0
    · rw [if_pos ⟨rfl, c3⟩]
      have d3 : ((s.word.length : Int) == 0) = true := by rw [c3]; rfl
      have C3 := Aside0.mk c3
      clear c3
      go_wp2
      go_ret
      exact ⟨rfl, _, _, X.out.put 2 _ (s' := {s with at_ := 10}) rfl rfl rfl⟩
    · rw [if_neg (fun x => c3 x.2), if_neg (fun x => absurd x.1 (by decide))]
      have d3 : ((s.word.length : Int) == 0) = false := by
        refine beq_eq_false_iff_ne.mpr (fun x => c3 (by omega))
      go_wp2_with (first
        | ((with_reducible refine gate_builtin (b := .append) (xs := #[.tmp 45, .tmp 47]) rfl ?_); at_builtin
           refine Kd.R_append (Kd.int .u8) (w0 := w) base rfl (.tmp 45) (.tmp 47) 25 5 (.int .u8 0) 1 rfl Tryd.underlying25 info5 rfl (by decide) (by omega) (.slice A s.word.length cp) s.word 13 [.int .u8 13] (fun _ => True) (fun _ => False) rfl rfl ?aP (fun _ hk => hk.elim) (fun _ _ => trivial) ?aO ?aB ?aS ?aL ?_
           case aP => exact rfl
           case aO => exact X.out.rd.word
           case aB => exact Below.refl _ _
           case aS => exact X.out.rd.size
           case aL => omega
           intro x1 w1 ho hb hg hat
           obtain ⟨A1, cp1, ex1, hcp1, _⟩ := Kd.R_reads ho
           rw [List.length_append, List.length_singleton] at ex1 hcp1
           subst ex1
           have Y1 := Aside0.mk (X.out.grow ho hb hg hat)
           have f31 := blk_frozen (blk_grown X.out.rd.blk hg (Kd.R_ne X.out.rd.word X.out.rd.blk (by decide))) 3
           have e31 : w1.cell? ⟨g, 3, none⟩ = some (.slice A s.word.length cp) := (blk_cell (blk_grown X.out.rd.blk hg (Kd.R_ne X.out.rd.word X.out.rd.blk (by decide))) 3).trans rfl
           have f21 := blk_frozen (blk_grown X.out.rd.blk hg (Kd.R_ne X.out.rd.word X.out.rd.blk (by decide))) 2
           have e21 : w1.cell? ⟨g, 2, none⟩ = some (.int .i64 s.at_) := (blk_cell (blk_grown X.out.rd.blk hg (Kd.R_ne X.out.rd.word X.out.rd.blk (by decide))) 2).trans rfl
           clear ho hb hg hat
           )
        | ((with_reducible refine gate_callee (f := 80) rfl ?_)
           refine goesL_ (some 52) rfl rfl Tryd.func80 (by kernel_rfl) rfl #[.int .u8 13] rfl (by (try simp only [List.map_toArray, List.map_cons, List.map_nil]); first | done | rfl) ?_
           (with_reducible refine (chars_Token.calls 13 _ _ (tok_f 13 (by decide) (by decide))).mono ?_)
           rintro e w2 ⟨rfl, hd⟩
           have Z := Aside0.mk (Y1.out.on hd.below)
           clear hd
           refine ⟨_, rfl, ?_⟩))
      go_ret
      first | exact ⟨rfl, _, _, Z.out⟩ | exact ⟨_, _, rfl, Z.out⟩
  · have d2 : (c == 13) = false := by simpa using c2
    rw [if_neg (fun x => c2 x.1)]
    by_cases c4 : c = 58
    · subst c4
      by_cases c3 : 0 < s.word.length
      · rw [if_pos ⟨rfl, c3⟩]
        have d3 : decide ((s.word.length : Int) > 0) = true := decide_eq_true (by omega)
        go_wp2_with (first
          | ((with_reducible refine gate_callee (f := 135) rfl ?_)
             refine goesL_ (some 38) rfl rfl Tryd.func135 (by kernel_rfl) rfl #[.pointer (some ⟨g, 0, none⟩), .int .i64 8] rfl (by (try simp only [List.map_toArray, List.map_cons, List.map_nil]); first | done | rfl) ?_
             (with_reducible refine (take_calls base _ g s (.slice A s.word.length cp) (.slice A' s.field.length cp') 8 X.out.rd).mono ?_)
             rintro e w3 ⟨x3, rfl, hd⟩
             have Z := Aside0.mk (X.out.trans hd)
             have g14 := blk_frozen Z.out.rd.blk 14
             have k14 : w3.cell? ⟨g, 14, none⟩ = some (.string s.name) := (blk_cell Z.out.rd.blk 14).trans rfl
             clear hd
             refine ⟨_, rfl, ?_⟩))
        go_ret
        exact ⟨rfl, _, _, Z.out.put 14 _ (s' := {s.taken 8 with name := strOfNums s.word}) rfl rfl rfl⟩
      · rw [if_neg (fun x => c3 x.2)]
        have d3 : decide ((s.word.length : Int) > 0) = false := decide_eq_false (by omega)
        go_wp2_with (first
          | ((with_reducible refine gate_builtin (b := .append) (xs := #[.tmp 45, .tmp 47]) rfl ?_); at_builtin
             refine Kd.R_append (Kd.int .u8) (w0 := w) base rfl (.tmp 45) (.tmp 47) 25 5 (.int .u8 0) 1 rfl Tryd.underlying25 info5 rfl (by decide) (by omega) (.slice A s.word.length cp) s.word 58 [.int .u8 58] (fun _ => True) (fun _ => False) rfl rfl ?aP (fun _ hk => hk.elim) (fun _ _ => trivial) ?aO ?aB ?aS ?aL ?_
             case aP => exact rfl
             case aO => exact X.out.rd.word
             case aB => exact Below.refl _ _
             case aS => exact X.out.rd.size
             case aL => omega
             intro x1 w1 ho hb hg hat
             obtain ⟨A1, cp1, ex1, hcp1, _⟩ := Kd.R_reads ho
             rw [List.length_append, List.length_singleton] at ex1 hcp1
             subst ex1
             have Y1 := Aside0.mk (X.out.grow ho hb hg hat)
             have f31 := blk_frozen (blk_grown X.out.rd.blk hg (Kd.R_ne X.out.rd.word X.out.rd.blk (by decide))) 3
             have e31 : w1.cell? ⟨g, 3, none⟩ = some (.slice A s.word.length cp) := (blk_cell (blk_grown X.out.rd.blk hg (Kd.R_ne X.out.rd.word X.out.rd.blk (by decide))) 3).trans rfl
             have f21 := blk_frozen (blk_grown X.out.rd.blk hg (Kd.R_ne X.out.rd.word X.out.rd.blk (by decide))) 2
             have e21 : w1.cell? ⟨g, 2, none⟩ = some (.int .i64 s.at_) := (blk_cell (blk_grown X.out.rd.blk hg (Kd.R_ne X.out.rd.word X.out.rd.blk (by decide))) 2).trans rfl
             clear ho hb hg hat
             )
          | ((with_reducible refine gate_callee (f := 80) rfl ?_)
             refine goesL_ (some 52) rfl rfl Tryd.func80 (by kernel_rfl) rfl #[.int .u8 58] rfl (by (try simp only [List.map_toArray, List.map_cons, List.map_nil]); first | done | rfl) ?_
             (with_reducible refine (chars_Token.calls 58 _ _ (tok_f 58 (by decide) (by decide))).mono ?_)
             rintro e w2 ⟨rfl, hd⟩
             have Z := Aside0.mk (Y1.out.on hd.below)
             clear hd
             refine ⟨_, rfl, ?_⟩))
        go_ret
        first | exact ⟨rfl, _, _, Z.out⟩ | exact ⟨_, _, rfl, Z.out⟩
    · have d4 : (c == 58) = false := by simpa using c4
      rw [if_neg (fun x => c4 x.1)]
      go_wp2_with (first
        | ((with_reducible refine gate_builtin (b := .append) (xs := #[.tmp 45, .tmp 47]) rfl ?_); at_builtin
           refine Kd.R_append (Kd.int .u8) (w0 := w) base rfl (.tmp 45) (.tmp 47) 25 5 (.int .u8 0) 1 rfl Tryd.underlying25 info5 rfl (by decide) (by omega) (.slice A s.word.length cp) s.word c [.int .u8 c] (fun _ => True) (fun _ => False) rfl rfl ?aP (fun _ hk => hk.elim) (fun _ _ => trivial) ?aO ?aB ?aS ?aL ?_
           case aP => exact rfl
           case aO => exact X.out.rd.word
           case aB => exact Below.refl _ _
           case aS => exact X.out.rd.size
           case aL => omega
           intro x1 w1 ho hb hg hat
           obtain ⟨A1, cp1, ex1, hcp1, _⟩ := Kd.R_reads ho
           rw [List.length_append, List.length_singleton] at ex1 hcp1
           subst ex1
           have Y1 := Aside0.mk (X.out.grow ho hb hg hat)
           have f31 := blk_frozen (blk_grown X.out.rd.blk hg (Kd.R_ne X.out.rd.word X.out.rd.blk (by decide))) 3
           have e31 : w1.cell? ⟨g, 3, none⟩ = some (.slice A s.word.length cp) := (blk_cell (blk_grown X.out.rd.blk hg (Kd.R_ne X.out.rd.word X.out.rd.blk (by decide))) 3).trans rfl
           have f21 := blk_frozen (blk_grown X.out.rd.blk hg (Kd.R_ne X.out.rd.word X.out.rd.blk (by decide))) 2
           have e21 : w1.cell? ⟨g, 2, none⟩ = some (.int .i64 s.at_) := (blk_cell (blk_grown X.out.rd.blk hg (Kd.R_ne X.out.rd.word X.out.rd.blk (by decide))) 2).trans rfl
           clear ho hb hg hat
           )
        | ((with_reducible refine gate_callee (f := 80) rfl ?_)
           refine goesL_ (some 52) rfl rfl Tryd.func80 (by kernel_rfl) rfl #[.int .u8 c] rfl (by (try simp only [List.map_toArray, List.map_cons, List.map_nil]); first | done | rfl) ?_
           (with_reducible refine (chars_Token.calls c _ _ (tok_f c hc0 hc1)).mono ?_)
           rintro e w2 ⟨rfl, hd⟩
           have Z := Aside0.mk (Y1.out.on hd.below)
           clear hd
           refine ⟨_, rfl, ?_⟩))
      go_ret
      first | exact ⟨rfl, _, _, Z.out⟩ | exact ⟨_, _, rfl, Z.out⟩
theorem fieldLine8 (base : Nat) (w : World) (g : Nat) (s : RdSt) (u0 u1 : Value) (c : Int) (hc0 : 0 ≤ c) (hc1 : c ≤ 255) (hl : s.word.length ≤ 1000000) (hfl : s.field.length ≤ 1000000) (h : Rd base w g s u0 u1) (c1 : ¬s.at_ = 7) (c5 : s.at_ = 8) :
    Calls Tryd.prog 119 #[.pointer (some ⟨g, 0, none⟩), .int .u8 c] w fun e w' => ∃ v0 v1, e = .returned (.bool (s.fldLine c).2) ∧ St base w g u0 u1 w' (s.fldLine c).1 v0 v1 := by
  obtain ⟨A, cp, rfl, hcl, hc⟩ := Kd.R_reads h.word
  obtain ⟨A', cp', rfl, hcl', _⟩ := Kd.R_reads h.field
  have e2 : w.cell? ⟨g, 2, none⟩ = some (.int .i64 s.at_) := (blk_cell h.blk 2).trans rfl
  have e3 : w.cell? ⟨g, 3, none⟩ = some (.slice A s.word.length cp) := (blk_cell h.blk 3).trans rfl
  have e14 : w.cell? ⟨g, 14, none⟩ = some (.string s.name) := (blk_cell h.blk 14).trans rfl
  have e15 : w.cell? ⟨g, 15, none⟩ = some (.slice A' s.field.length cp') := (blk_cell h.blk 15).trans rfl
  have f2 := blk_frozen h.blk 2
  have f3 := blk_frozen h.blk 3
  have f14 := blk_frozen h.blk 14
  have f15 := blk_frozen h.blk 15
  have X := Aside0.mk h.st
  clear h hc
  unfold RdSt.fldLine
  go_enter Tryd.func119, Tryd.ntmps119
  rw [if_neg c1]
  have d1 : (s.at_ == 7) = false := by simpa using c1
  rw [if_pos c5]
  have d5 : (s.at_ == 8) = true := by simpa using c5
  by_cases c2 : c = 13
  · subst c2
    rw [if_pos rfl]
    go_wp2
    go_ret
    exact ⟨rfl, _, _, X.out.put 2 _ (s' := {s with at_ := 9}) rfl rfl rfl⟩
  · rw [if_neg c2]
    have d2 : (c == 13) = false := by simpa using c2
    go_wp2_with (first
      | ((with_reducible refine gate_builtin (b := .append) (xs := #[.tmp 64, .tmp 66]) rfl ?_); at_builtin
         refine Kd.R_append (Kd.int .u8) (w0 := w) base rfl (.tmp 64) (.tmp 66) 25 5 (.int .u8 0) 1 rfl Tryd.underlying25 info5 rfl (by decide) (by omega) (.slice A s.word.length cp) s.word c [.int .u8 c] (fun _ => True) (fun _ => False) rfl rfl ?aP (fun _ hk => hk.elim) (fun _ _ => trivial) ?aO ?aB ?aS ?aL ?_
         case aP => exact rfl
         case aO => exact X.out.rd.word
         case aB => exact Below.refl _ _
         case aS => exact X.out.rd.size
         case aL => omega
         intro x1 w1 ho hb hg hat
         obtain ⟨A1, cp1, ex1, hcp1, _⟩ := Kd.R_reads ho
         rw [List.length_append, List.length_singleton] at ex1 hcp1
         subst ex1
         have Y1 := Aside0.mk (X.out.grow ho hb hg hat)
         have f31 := blk_frozen (blk_grown X.out.rd.blk hg (Kd.R_ne X.out.rd.word X.out.rd.blk (by decide))) 3
         have e31 : w1.cell? ⟨g, 3, none⟩ = some (.slice A s.word.length cp) := (blk_cell (blk_grown X.out.rd.blk hg (Kd.R_ne X.out.rd.word X.out.rd.blk (by decide))) 3).trans rfl
         have f21 := blk_frozen (blk_grown X.out.rd.blk hg (Kd.R_ne X.out.rd.word X.out.rd.blk (by decide))) 2
         have e21 : w1.cell? ⟨g, 2, none⟩ = some (.int .i64 s.at_) := (blk_cell (blk_grown X.out.rd.blk hg (Kd.R_ne X.out.rd.word X.out.rd.blk (by decide))) 2).trans rfl
         clear ho hb hg hat
         )
      | ((with_reducible refine gate_callee (f := 52) rfl ?_)
         refine goesL_ (some 71) rfl rfl Tryd.func52 (by kernel_rfl) rfl #[.int .u8 c] rfl (by (try simp only [List.map_toArray, List.map_cons, List.map_nil]); first | done | rfl) ?_
         (with_reducible refine (chars_Value.calls c _ _ (val_f c)).mono ?_)
         rintro e w2 ⟨rfl, hd⟩
         have Z := Aside0.mk (Y1.out.on hd.below)
         clear hd
         refine ⟨_, rfl, ?_⟩))
    go_ret
    first | exact ⟨rfl, _, _, Z.out⟩ | exact ⟨_, _, rfl, Z.out⟩
set_option maxHeartbeats 3200000 in
theorem fieldLine9 (base : Nat) (w : World) (g : Nat) (s : RdSt) (u0 u1 : Value) (c : Int) (hc0 : 0 ≤ c) (hc1 : c ≤ 255) (hl : s.word.length ≤ 1000000) (hfl : s.field.length ≤ 1000000) (h : Rd base w g s u0 u1) (c1 : ¬s.at_ = 7) (c5 : ¬s.at_ = 8) (c6 : s.at_ = 9) :
    Calls Tryd.prog 119 #[.pointer (some ⟨g, 0, none⟩), .int .u8 c] w fun e w' => ∃ v0 v1, e = .returned (.bool (s.fldLine c).2) ∧ St base w g u0 u1 w' (s.fldLine c).1 v0 v1 := by
  obtain ⟨A, cp, rfl, hcl, hc⟩ := Kd.R_reads h.word
  obtain ⟨A', cp', rfl, hcl', _⟩ := Kd.R_reads h.field
  have e2 : w.cell? ⟨g, 2, none⟩ = some (.int .i64 s.at_) := (blk_cell h.blk 2).trans rfl
  have e3 : w.cell? ⟨g, 3, none⟩ = some (.slice A s.word.length cp) := (blk_cell h.blk 3).trans rfl
  have e14 : w.cell? ⟨g, 14, none⟩ = some (.string s.name) := (blk_cell h.blk 14).trans rfl
  have e15 : w.cell? ⟨g, 15, none⟩ = some (.slice A' s.field.length cp') := (blk_cell h.blk 15).trans rfl
  have f2 := blk_frozen h.blk 2
  have f3 := blk_frozen h.blk 3
  have f14 := blk_frozen h.blk 14
  have f15 := blk_frozen h.blk 15
  have X := Aside0.mk h.st
  clear h hc
  unfold RdSt.fldLine
  go_enter Tryd.func119, Tryd.ntmps119
  rw [if_neg c1, if_neg c5]
  have d1 : (s.at_ == 7) = false := by simpa using c1
  have d5 : (s.at_ == 8) = false := by simpa using c5
  rw [if_pos c6]
  have d6 : (s.at_ == 9) = true := by simpa using c6
  have hs8 : (strOfNums s.word).size ≤ 9223372036854775807 := by
    rw [strOfNums_size]
    omega
  have HT := Aside0.mk (trim_f (strOfNums s.word) hs8)
  clear hs8
  go_wp2_with fail
  refine start_ (n := 18) (S := fun w' => w'.cell? ⟨g, 15, none⟩ = some (.slice A' s.field.length cp') ∧ w'.cell? ⟨g, 14, none⟩ = some (.string s.name)) (ds := [17]) #[false, false, false, false, false, false, false, false, false, false, false, false, false, false, false, false, false, false] (by kernel_rfl) rfl rfl ⟨(blk_cell X.out.drew.rd.blk 15).trans rfl, (blk_cell X.out.drew.rd.blk 14).trans rfl⟩ (fun hHeld => ?_)
  refine pure_ (i := 0) (N := some 74) (v := ?_) (a' := ?_) #[true, false, false, false, false, false, false, false, false, false, false, false, false, false, false, false, false, false] rfl rfl (by kernel_rfl) (fun _ _ _ h => h) (Or.inl ⟨by rfl, ?_⟩) ?_ ?_
  rotate_left
  · intro w'
    go_simp
    with_reducible rfl
  rotate_left
  · simp only [Act.put, List.setIfInBounds_toArray, List.set_cons_zero, List.set_cons_succ, i64_w, i32_w]
    rfl
  refine pure_ (i := 1) (N := some 75) (v := ?_) (a' := ?_) #[true, true, false, false, false, false, false, false, false, false, false, false, false, false, false, false, false, false] rfl rfl (by kernel_rfl) (fun _ _ _ h => h) (Or.inl ⟨by rfl, ?_⟩) ?_ ?_
  rotate_left
  · intro w'
    go_simp
    with_reducible rfl
  rotate_left
  · simp only [Act.put, List.setIfInBounds_toArray, List.set_cons_zero, List.set_cons_succ, i64_w, i32_w]
    rfl
  refine pure_ (i := 2) (N := some 76) (v := ?_) (a' := ?_) #[true, true, true, false, false, false, false, false, false, false, false, false, false, false, false, false, false, false] rfl rfl (by kernel_rfl) (fun _ _ _ h => h) (Or.inl ⟨by rfl, ?_⟩) ?_ ?_
  rotate_left
  · intro w'
    go_simp
    with_reducible rfl
  rotate_left
  · simp only [Act.put, List.setIfInBounds_toArray, List.set_cons_zero, List.set_cons_succ, i64_w, i32_w]
    rfl
  refine pure_ (i := 3) (N := some 77) (v := ?_) (a' := ?_) #[true, true, true, true, false, false, false, false, false, false, false, false, false, false, false, false, false, false] rfl rfl (by kernel_rfl) (fun _ _ _ h => h) (Or.inl ⟨by rfl, ?_⟩) ?_ ?_
  rotate_left
  · intro w'
    go_simp
    with_reducible rfl
  rotate_left
  · simp only [Act.put, List.setIfInBounds_toArray, List.set_cons_zero, List.set_cons_succ, i64_w, i32_w]
    rfl
  refine pure_ (i := 5) (N := some 79) (v := ?_) (a' := ?_) #[true, true, true, true, false, true, false, false, false, false, false, false, false, false, false, false, false, false] rfl rfl (by kernel_rfl) (fun _ _ _ h => h) (Or.inl ⟨by rfl, ?_⟩) ?_ ?_
  rotate_left
  · intro w'
    go_simp
    with_reducible rfl
  rotate_left
  · simp only [Act.put, List.setIfInBounds_toArray, List.set_cons_zero, List.set_cons_succ, i64_w, i32_w]
    rfl
  refine pure_ (i := 6) (N := some 80) (v := ?_) (a' := ?_) #[true, true, true, true, false, true, true, false, false, false, false, false, false, false, false, false, false, false] rfl rfl (by kernel_rfl) (fun _ _ _ h => h) (Or.inl ⟨by rfl, ?_⟩) ?_ ?_
  rotate_left
  · intro w'
    go_simp
    with_reducible rfl
  rotate_left
  · simp only [Act.put, List.setIfInBounds_toArray, List.set_cons_zero, List.set_cons_succ, i64_w, i32_w]
    rfl
  refine pure_ (i := 7) (N := some 81) (v := ?_) (a' := ?_) #[true, true, true, true, false, true, true, true, false, false, false, false, false, false, false, false, false, false] rfl rfl (by kernel_rfl) (fun _ _ _ h => h) (Or.inl ⟨by rfl, ?_⟩) ?_ ?_
  rotate_left
  · intro w'
    go_simp
    with_reducible rfl
  rotate_left
  · simp only [Act.put, List.setIfInBounds_toArray, List.set_cons_zero, List.set_cons_succ, i64_w, i32_w]
    rfl
  refine pure_ (i := 9) (N := some 83) (v := ?_) (a' := ?_) #[true, true, true, true, false, true, true, true, false, true, false, false, false, false, false, false, false, false] rfl rfl (by kernel_rfl) (fun _ _ _ h => h) (Or.inl ⟨by rfl, ?_⟩) ?_ ?_
  rotate_left
  · intro w'
    go_simp
    with_reducible rfl
  rotate_left
  · simp only [Act.put, List.setIfInBounds_toArray, List.set_cons_zero, List.set_cons_succ, i64_w, i32_w]
    rfl
  refine take_ (i := 4) (N := some 78) (v := ?_) (a' := ?_) #[true, true, true, true, true, true, true, true, false, true, false, false, false, false, false, false, false, false] rfl rfl (by kernel_rfl) (fun _ _ _ h => h) (Or.inl ⟨by rfl, ?_⟩) hHeld ?_ ?_
  rotate_left
  · rintro w' ⟨s0, s1⟩
    go_simp
    with_reducible rfl
  rotate_left
  · simp only [Act.put, List.setIfInBounds_toArray, List.set_cons_zero, List.set_cons_succ, i64_w, i32_w]
    rfl
  refine take_ (i := 8) (N := some 82) (v := ?_) (a' := ?_) #[true, true, true, true, true, true, true, true, true, true, false, false, false, false, false, false, false, false] rfl rfl (by kernel_rfl) (fun _ _ _ h => h) (Or.inl ⟨by rfl, ?_⟩) hHeld ?_ ?_
  rotate_left
  · rintro w' ⟨s0, s1⟩
    go_simp
    with_reducible rfl
  rotate_left
  · simp only [Act.put, List.setIfInBounds_toArray, List.set_cons_zero, List.set_cons_succ, i64_w, i32_w]
    rfl
  refine one_ (i := 10) (N := some 84) #[true, true, true, true, true, true, true, true, true, true, true, false, false, false, false, false, false, false] rfl rfl (by kernel_rfl) (by decide) (fun K hK => ?_)
  refine goes_ Tryd.func135 (by kernel_rfl) rfl #[.pointer (some ⟨g, 0, none⟩), .int .i64 7] (by rfl) rfl rfl (by simp only [List.map_toArray, List.map_cons, List.map_nil]; rfl) ?_
  with_reducible refine (take_calls base _ g s (.slice A s.word.length cp) (.slice A' s.field.length cp') 7 X.out.drew.rd).mono ?_
  rintro e w3 ⟨x3, rfl, hd⟩
  have X3 := Aside0.mk (X.out.drew.trans hd)
  clear hd
  refine ⟨_, rfl, ?_⟩
  refine hK.out _ _ ⟨(blk_cell X3.out.rd.blk 15).trans rfl, (blk_cell X3.out.rd.blk 14).trans rfl⟩ (fun hHeld => ?_)
  clear hK K
  refine norm_ (a' := ?_) ?_ ?_
  rotate_left
  · show Act.put _ (some 84) _ = _
    simp only [Act.put, List.setIfInBounds_toArray, List.set_cons_zero, List.set_cons_succ, i64_w, i32_w]
    rfl
  refine one_ (i := 11) (N := some 85) #[true, true, true, true, true, true, true, true, true, true, true, true, false, false, false, false, false, false] rfl rfl (by kernel_rfl) (by decide) (fun K hK => ?_)
  refine goes_ Tryd.func81 (by kernel_rfl) rfl #[.string (strOfNums s.word)] (by rfl) rfl rfl (by simp only [List.map_toArray, List.map_cons, List.map_nil]; rfl) ?_
  with_reducible refine (chars_Trim.calls (strOfNums s.word) _ _ HT.out).mono ?_
  rintro e w2 ⟨rfl, hd⟩
  have X4 := Aside0.mk (X3.out.on hd)
  have m15 : w2.cell? ⟨g, 15, none⟩ = some (.slice A' s.field.length cp') := (blk_cell X4.out.rd.blk 15).trans rfl
  have m14 : w2.cell? ⟨g, 14, none⟩ = some (.string s.name) := (blk_cell X4.out.rd.blk 14).trans rfl
  have k15a : ∀ o, (w2.alloc o).cell? ⟨g, 15, none⟩ = some (.slice A' s.field.length cp') := fun o => (World.cell?_alloc_lt w2 o _ (World.block_lt_of_cell? w2 _ m15)).trans m15
  have k14a : ∀ o, (w2.alloc o).cell? ⟨g, 14, none⟩ = some (.string s.name) := fun o => (World.cell?_alloc_lt w2 o _ (World.block_lt_of_cell? w2 _ m14)).trans m14
  have M5 := Aside0.mk m15
  have M4 := Aside0.mk m14
  have K5 := Aside0.mk k15a
  have K4 := Aside0.mk k14a
  clear hd m15 m14 k15a k14a
  refine ⟨_, rfl, ?_⟩
  refine hK.out _ _ ⟨M5.out, M4.out⟩ (fun hHeld => ?_)
  clear hK K
  refine norm_ (a' := ?_) ?_ ?_
  rotate_left
  · show Act.put _ (some 85) _ = _
    simp only [Act.put, List.setIfInBounds_toArray, List.set_cons_zero, List.set_cons_succ, i64_w, i32_w]
    rfl
  refine pure_ (i := 12) (N := some 86) (v := ?_) (a' := ?_) #[true, true, true, true, true, true, true, true, true, true, true, true, true, false, false, false, false, false] rfl rfl (by kernel_rfl) (fun _ _ _ h => h) (Or.inl ⟨by rfl, ?_⟩) ?_ ?_
  rotate_left
  · intro w'
    go_simp
    with_reducible rfl
  rotate_left
  · simp only [Act.put, List.setIfInBounds_toArray, List.set_cons_zero, List.set_cons_succ, i64_w, i32_w]
    rfl
  refine one_ (i := 13) (N := some 87) #[true, true, true, true, true, true, true, true, true, true, true, true, true, true, false, false, false, false] rfl rfl (by kernel_rfl) (by decide) (fun K hK => ?_)
  refine value_ (w1 := ?_) (v := ?_) (by rfl) rfl ?_ ?_
  rotate_left 2
  · go_simp
    constructor
    · rfl
    · rfl
  refine hK.out _ _ ⟨K5.out _, K4.out _⟩ (fun hHeld => ?_)
  clear hK K
  refine norm_ (a' := ?_) ?_ ?_
  rotate_left
  · show Act.put _ (some 87) _ = _
    simp only [Act.put, List.setIfInBounds_toArray, List.set_cons_zero, List.set_cons_succ, i64_w, i32_w]
    rfl
  refine one_ (i := 14) (N := some 88) #[true, true, true, true, true, true, true, true, true, true, true, true, true, true, true, false, false, false] rfl rfl (by kernel_rfl) (by decide) (fun K hK => ?_)
  refine Kd.R_append_step k50 (w0 := w2) base (by rfl) (.tmp 78) (.tmp 87) 22 50 (.agg #[(.string ⟨#[]⟩), (.string ⟨#[]⟩)]) 32 rfl Tryd.underlying22 info50 rfl (by decide) (by omega) (.slice A' s.field.length cp') s.field ⟨s.name, trimOf s.word⟩ [.string s.name, .string (trimOf s.word)] (fun _ => True) (fun _ => False) rfl rfl (k50_mkM _ _ _ ⟨s.name, trimOf s.word⟩) (fun _ hk => hk.elim) (fun _ _ => trivial) X4.out.rd.field (Below.refl _ _) X4.out.rd.size (by omega) ?_
  intro x1 w1 ho hb hg hat
  obtain ⟨A1, cp1, ex1, hcp1, _⟩ := Kd.R_reads ho
  rw [List.length_append, List.length_singleton] at ex1 hcp1
  subst ex1
  have Y1 := Aside0.mk (X4.out.growf ho hb hg hat)
  have f31 := blk_frozen (blk_grown X4.out.rd.blk hg (Kd.R_ne X4.out.rd.field X4.out.rd.blk (by decide))) 15
  have e31 : w1.cell? ⟨g, 15, none⟩ = some (.slice A' s.field.length cp') := (blk_cell (blk_grown X4.out.rd.blk hg (Kd.R_ne X4.out.rd.field X4.out.rd.blk (by decide))) 15).trans rfl
  have e32 : w1.cell? ⟨g, 14, none⟩ = some (.string s.name) := (blk_cell (blk_grown X4.out.rd.blk hg (Kd.R_ne X4.out.rd.field X4.out.rd.blk (by decide))) 14).trans rfl
  clear ho hb hg hat hcp1
  refine hK.out _ _ ⟨e31, e32⟩ (fun hHeld => ?_)
  clear hK K
  refine norm_ (a' := ?_) ?_ ?_
  rotate_left
  · show Act.put _ (some 88) _ = _
    simp only [Act.put, List.setIfInBounds_toArray, List.set_cons_zero, List.set_cons_succ, i64_w, i32_w]
    rfl
  refine pure_ (i := 15) (N := some 89) (v := ?_) (a' := ?_) #[true, true, true, true, true, true, true, true, true, true, true, true, true, true, true, true, false, false] rfl rfl (by kernel_rfl) (fun _ _ _ h => h) (Or.inl ⟨by rfl, ?_⟩) ?_ ?_
  rotate_left
  · intro w'
    go_simp
    with_reducible rfl
  rotate_left
  · simp only [Act.put, List.setIfInBounds_toArray, List.set_cons_zero, List.set_cons_succ, i64_w, i32_w]
    rfl
  refine pure_ (i := 16) (N := some 90) (v := ?_) (a' := ?_) #[true, true, true, true, true, true, true, true, true, true, true, true, true, true, true, true, true, false] rfl rfl (by kernel_rfl) (fun _ _ _ h => h) (Or.inl ⟨by rfl, ?_⟩) ?_ ?_
  rotate_left
  · intro w'
    go_simp
    with_reducible rfl
  rotate_left
  · simp only [Act.put, List.setIfInBounds_toArray, List.set_cons_zero, List.set_cons_succ, i64_w, i32_w]
    rfl
  refine last_ (i := 17) (N := none) #[true, true, true, true, true, true, true, true, true, true, true, true, true, true, true, true, true, true] rfl rfl (by kernel_rfl) (by decide) (fun K hK => ?_)
  refine skip_ (w1 := ?_) (by rfl) rfl ?_ ?_
  rotate_left
  · go_simp
    rfl
  refine hK.out _ _ ?_
  clear hK K
  refine done_ (by kernel_rfl) ?_
  all_goals go_wp2
  all_goals go_ret
  all_goals first | exact ⟨rfl, _, _, Y1.out⟩ | exact ⟨_, _, rfl, Y1.out⟩
theorem fieldLine10 (base : Nat) (w : World) (g : Nat) (s : RdSt) (u0 u1 : Value) (c : Int) (hc0 : 0 ≤ c) (hc1 : c ≤ 255) (hl : s.word.length ≤ 1000000) (hfl : s.field.length ≤ 1000000) (h : Rd base w g s u0 u1) (c1 : ¬s.at_ = 7) (c5 : ¬s.at_ = 8) (c6 : ¬s.at_ = 9) :
    Calls Tryd.prog 119 #[.pointer (some ⟨g, 0, none⟩), .int .u8 c] w fun e w' => ∃ v0 v1, e = .returned (.bool (s.fldLine c).2) ∧ St base w g u0 u1 w' (s.fldLine c).1 v0 v1 := by
  obtain ⟨A, cp, rfl, hcl, hc⟩ := Kd.R_reads h.word
  obtain ⟨A', cp', rfl, hcl', _⟩ := Kd.R_reads h.field
  have e2 : w.cell? ⟨g, 2, none⟩ = some (.int .i64 s.at_) := (blk_cell h.blk 2).trans rfl
  have e3 : w.cell? ⟨g, 3, none⟩ = some (.slice A s.word.length cp) := (blk_cell h.blk 3).trans rfl
  have e14 : w.cell? ⟨g, 14, none⟩ = some (.string s.name) := (blk_cell h.blk 14).trans rfl
  have e15 : w.cell? ⟨g, 15, none⟩ = some (.slice A' s.field.length cp') := (blk_cell h.blk 15).trans rfl
  have f2 := blk_frozen h.blk 2
  have f3 := blk_frozen h.blk 3
  have f14 := blk_frozen h.blk 14
  have f15 := blk_frozen h.blk 15
  have X := Aside0.mk h.st
  clear h hc
  unfold RdSt.fldLine
  go_enter Tryd.func119, Tryd.ntmps119
  rw [if_neg c1, if_neg c5]
  have d1 : (s.at_ == 7) = false := by simpa using c1
  have d5 : (s.at_ == 8) = false := by simpa using c5
  rw [if_neg c6]
  have d6 : (s.at_ == 9) = false := by simpa using c6
  go_wp2
  go_ret
  first | exact ⟨rfl, _, _, X.out.put 2 _ (s' := {s with at_ := 11}) rfl rfl rfl⟩ | exact ⟨_, _, rfl, X.out.put 2 _ (s' := {s with at_ := 11}) rfl rfl rfl⟩
theorem fieldLine_calls (base : Nat) (w : World) (g : Nat) (s : RdSt) (u0 u1 : Value) (c : Int) (hc0 : 0 ≤ c) (hc1 : c ≤ 255) (hl : s.word.length ≤ 1000000) (hfl : s.field.length ≤ 1000000) (h : Rd base w g s u0 u1) :
    Calls Tryd.prog 119 #[.pointer (some ⟨g, 0, none⟩), .int .u8 c] w fun e w' => ∃ v0 v1, e = .returned (.bool (s.fldLine c).2) ∧ St base w g u0 u1 w' (s.fldLine c).1 v0 v1 := by
  by_cases c1 : s.at_ = 7
  · exact fieldLine7 base w g s u0 u1 c hc0 hc1 hl hfl h c1
  · by_cases c5 : s.at_ = 8
    · exact fieldLine8 base w g s u0 u1 c hc0 hc1 hl hfl h c1 c5
    · by_cases c6 : s.at_ = 9
      · exact fieldLine9 base w g s u0 u1 c hc0 hc1 hl hfl h c1 c5 c6
      · exact fieldLine10 base w g s u0 u1 c hc0 hc1 hl hfl h c1 c5 c6
end Go.Proofs.YtdmbgbennlnpcaaDoor.Hd
namespace Go.Proofs.YtdmbgbennlnpcaaDoor.Hd
open Go.RowKit Go.Proofs.YtdmbgbennlnpcaaDoorW.PrintWords Go.Proofs.YtdmbgbennlnpcaaDoorW.PrintLast Go.Proofs.YtdmbgbennlnpcaaDoorW.PrintMore
set_option linter.unusedVariables false
set_option linter.unusedSimpArgs false
set_option maxRecDepth 8000
def judge (s2 : RdSt) (ok : Bool) (er : Int) : Option Int :=
  if s2.len > s2.most then some 22 else if ok = true then (if 64 < s2.field.length then some 22 else none) else some er
theorem requestLine_to (base : Nat) (w : World) (g : Nat) (s : RdSt) (u0 u1 : Value) (c : Int) (hc0 : 0 ≤ c) (hc1 : c ≤ 255) (hl : s.word.length ≤ 1000000) (hfl : s.field.length ≤ 1000000) (h : Rd base w g s u0 u1) (s2 : RdSt) (ok : Bool) (hR : s.reqLine c = (s2, ok)) :
    Calls Tryd.prog 120 #[.pointer (some ⟨g, 0, none⟩), .int .u8 c] w fun e w' => ∃ v0 v1, e = .returned (.bool ok) ∧ St base w g u0 u1 w' s2 v0 v1 := by
  have := requestLine_calls base w g s u0 u1 c hc0 hc1 hl h
  rw [hR] at this
  exact this.mono (fun e w' ⟨v0, he, hs⟩ => ⟨v0, u1, he, hs⟩)
theorem statusLine_to (base : Nat) (w : World) (g : Nat) (s : RdSt) (u0 u1 : Value) (c : Int) (hc0 : 0 ≤ c) (hc1 : c ≤ 255) (hl : s.word.length ≤ 1000000) (hfl : s.field.length ≤ 1000000) (h : Rd base w g s u0 u1) (s2 : RdSt) (ok : Bool) (hR : s.statLine c = (s2, ok)) :
    Calls Tryd.prog 121 #[.pointer (some ⟨g, 0, none⟩), .int .u8 c] w fun e w' => ∃ v0 v1, e = .returned (.bool ok) ∧ St base w g u0 u1 w' s2 v0 v1 := by
  have := statusLine_calls base w g s u0 u1 c hc0 hc1 hl h
  rw [hR] at this
  exact this.mono (fun e w' ⟨v0, he, hs⟩ => ⟨v0, u1, he, hs⟩)
theorem fieldLine_to (base : Nat) (w : World) (g : Nat) (s : RdSt) (u0 u1 : Value) (c : Int) (hc0 : 0 ≤ c) (hc1 : c ≤ 255) (hl : s.word.length ≤ 1000000) (hfl : s.field.length ≤ 1000000) (h : Rd base w g s u0 u1) (s2 : RdSt) (ok : Bool) (hR : s.fldLine c = (s2, ok)) :
    Calls Tryd.prog 119 #[.pointer (some ⟨g, 0, none⟩), .int .u8 c] w fun e w' => ∃ v0 v1, e = .returned (.bool ok) ∧ St base w g u0 u1 w' s2 v0 v1 := by
  have := fieldLine_calls base w g s u0 u1 c hc0 hc1 hl hfl h
  rw [hR] at this
  exact this
set_option maxHeartbeats 3200000 in
theorem byteQ (base : Nat) (w : World) (g : Nat) (s : RdSt) (u0 u1 : Value) (c : Int) (hc0 : 0 ≤ c) (hc1 : c ≤ 255) (hl : s.word.length ≤ 1000000) (hfl : s.field.length ≤ 1000000) (hn0 : 0 ≤ s.len) (hn1 : s.len ≤ 1000000) (h : Rd base w g s u0 u1)
    (c6 : ¬s.at_ = 6) (c7 : ¬s.at_ ≥ 7) (ca : s.asks = true) (s2 : RdSt) (ok : Bool) (hr : ({s with len := s.len + 1} : RdSt).reqLine c = (s2, ok)) :
    Calls Tryd.prog 101 #[.pointer (some ⟨g, 0, none⟩), .int .u8 c] w fun e w' => ∃ v0 v1, e = .returned (errW (judge s2 ok 20)) ∧ St base w g u0 u1 w' s2 v0 v1 := by
  have hR := Aside0.mk hr
  clear hr
  obtain ⟨A', cp', rfl, hcl', _⟩ := Kd.R_reads h.field
  have e0 : w.cell? ⟨g, 0, none⟩ = some (.bool s.asks) := (blk_cell h.blk 0).trans rfl
  have e1 : w.cell? ⟨g, 1, none⟩ = some (.int .i64 s.most) := (blk_cell h.blk 1).trans rfl
  have e2 : w.cell? ⟨g, 2, none⟩ = some (.int .i64 s.at_) := (blk_cell h.blk 2).trans rfl
  have e4 : w.cell? ⟨g, 4, none⟩ = some (.int .i64 s.len) := (blk_cell h.blk 4).trans rfl
  have e15 : w.cell? ⟨g, 15, none⟩ = some (.slice A' s.field.length cp') := (blk_cell h.blk 15).trans rfl
  have f0 := blk_frozen h.blk 0
  have f1 := blk_frozen h.blk 1
  have f2 := blk_frozen h.blk 2
  have f4 := blk_frozen h.blk 4
  have f15 := blk_frozen h.blk 15
  have X := Aside0.mk h.st
  have X1 := Aside0.mk (h.st.put 4 (.int .i64 (s.len + 1)) (s' := {s with len := s.len + 1}) rfl rfl rfl)
  have hw : wrap64 (s.len + 1) = s.len + 1 := by unfold wrap64; omega
  clear h
  go_enter Tryd.func101, Tryd.ntmps101
  rw [ca] at e0
  have d6 : (s.at_ == 6) = false := by simpa using c6
  have d7 : decide (s.at_ ≥ 7) = false := decide_eq_false c7
  unfold judge
  by_cases hL : s2.len > s2.most
  · rw [if_pos hL]
    have dL := decide_eq_true hL
    cases ok with
    | true =>
      go_wp2_with (first
        | ((with_reducible refine gate_callee (f := 120) rfl ?_)
           refine goesL_ (some 44) rfl rfl Tryd.func120 (by kernel_rfl) rfl #[.pointer (some ⟨g, 0, none⟩), .int .u8 c] rfl (by (try simp only [List.map_toArray, List.map_cons, List.map_nil]); first | done | rfl) ?_
           (with_reducible refine (requestLine_to base _ g {s with len := s.len + 1} _ (.slice A' s.field.length cp') c hc0 hc1 hl hfl X1.out.rd s2 true hR.out).mono ?_)
           rintro e w3 ⟨x3, y3, rfl, hd⟩
           have Z := Aside0.mk (X1.out.trans hd)
           obtain ⟨A3, cp3, ey3, hcl3, _⟩ := Kd.R_reads hd.rd.field
           subst ey3
           have k1 : w3.cell? ⟨g, 1, none⟩ = some (.int .i64 s2.most) := (blk_cell hd.rd.blk 1).trans rfl
           have k4 : w3.cell? ⟨g, 4, none⟩ = some (.int .i64 s2.len) := (blk_cell hd.rd.blk 4).trans rfl
           have k15 : w3.cell? ⟨g, 15, none⟩ = some (.slice A3 s2.field.length cp3) := (blk_cell hd.rd.blk 15).trans rfl
           have g1 := blk_frozen hd.rd.blk 1
           have g4 := blk_frozen hd.rd.blk 4
           have g15 := blk_frozen hd.rd.blk 15
           clear hd
           refine ⟨_, rfl, ?_⟩))
      go_still (by kernel_rfl)
      go_wp2
      go_ret
      first | exact ⟨_, _, rfl, Z.out.drew⟩ | exact ⟨rfl, _, _, Z.out.drew⟩
    | false =>
      go_wp2_with (first
        | ((with_reducible refine gate_callee (f := 120) rfl ?_)
           refine goesL_ (some 44) rfl rfl Tryd.func120 (by kernel_rfl) rfl #[.pointer (some ⟨g, 0, none⟩), .int .u8 c] rfl (by (try simp only [List.map_toArray, List.map_cons, List.map_nil]); first | done | rfl) ?_
           (with_reducible refine (requestLine_to base _ g {s with len := s.len + 1} _ (.slice A' s.field.length cp') c hc0 hc1 hl hfl X1.out.rd s2 false hR.out).mono ?_)
           rintro e w3 ⟨x3, y3, rfl, hd⟩
           have Z := Aside0.mk (X1.out.trans hd)
           obtain ⟨A3, cp3, ey3, hcl3, _⟩ := Kd.R_reads hd.rd.field
           subst ey3
           have k1 : w3.cell? ⟨g, 1, none⟩ = some (.int .i64 s2.most) := (blk_cell hd.rd.blk 1).trans rfl
           have k4 : w3.cell? ⟨g, 4, none⟩ = some (.int .i64 s2.len) := (blk_cell hd.rd.blk 4).trans rfl
           have k15 : w3.cell? ⟨g, 15, none⟩ = some (.slice A3 s2.field.length cp3) := (blk_cell hd.rd.blk 15).trans rfl
           have g1 := blk_frozen hd.rd.blk 1
           have g4 := blk_frozen hd.rd.blk 4
           have g15 := blk_frozen hd.rd.blk 15
           clear hd
           refine ⟨_, rfl, ?_⟩))
      go_still (by kernel_rfl)
      go_wp2
      go_ret
      first | exact ⟨_, _, rfl, Z.out.drew⟩ | exact ⟨rfl, _, _, Z.out.drew⟩
  · rw [if_neg hL]
    have dL := decide_eq_false hL
    cases ok with
    | true =>
      rw [if_pos rfl]
      by_cases hF : 64 < s2.field.length
      · rw [if_pos hF]
        have dF : decide ((s2.field.length : Int) > 64) = true := decide_eq_true (by omega)
        go_wp2_with (first
          | ((with_reducible refine gate_callee (f := 120) rfl ?_)
             refine goesL_ (some 44) rfl rfl Tryd.func120 (by kernel_rfl) rfl #[.pointer (some ⟨g, 0, none⟩), .int .u8 c] rfl (by (try simp only [List.map_toArray, List.map_cons, List.map_nil]); first | done | rfl) ?_
             (with_reducible refine (requestLine_to base _ g {s with len := s.len + 1} _ (.slice A' s.field.length cp') c hc0 hc1 hl hfl X1.out.rd s2 true hR.out).mono ?_)
             rintro e w3 ⟨x3, y3, rfl, hd⟩
             have Z := Aside0.mk (X1.out.trans hd)
             obtain ⟨A3, cp3, ey3, hcl3, _⟩ := Kd.R_reads hd.rd.field
             subst ey3
             have k1 : w3.cell? ⟨g, 1, none⟩ = some (.int .i64 s2.most) := (blk_cell hd.rd.blk 1).trans rfl
             have k4 : w3.cell? ⟨g, 4, none⟩ = some (.int .i64 s2.len) := (blk_cell hd.rd.blk 4).trans rfl
             have k15 : w3.cell? ⟨g, 15, none⟩ = some (.slice A3 s2.field.length cp3) := (blk_cell hd.rd.blk 15).trans rfl
             have g1 := blk_frozen hd.rd.blk 1
             have g4 := blk_frozen hd.rd.blk 4
             have g15 := blk_frozen hd.rd.blk 15
             clear hd
             refine ⟨_, rfl, ?_⟩))
        go_still (by kernel_rfl)
        go_wp2
        go_ret
        first | exact ⟨_, _, rfl, Z.out.drew⟩ | exact ⟨rfl, _, _, Z.out.drew⟩
      · rw [if_neg hF]
        have dF : decide ((s2.field.length : Int) > 64) = false := decide_eq_false (by omega)
        go_wp2_with (first
          | ((with_reducible refine gate_callee (f := 120) rfl ?_)
             refine goesL_ (some 44) rfl rfl Tryd.func120 (by kernel_rfl) rfl #[.pointer (some ⟨g, 0, none⟩), .int .u8 c] rfl (by (try simp only [List.map_toArray, List.map_cons, List.map_nil]); first | done | rfl) ?_
             (with_reducible refine (requestLine_to base _ g {s with len := s.len + 1} _ (.slice A' s.field.length cp') c hc0 hc1 hl hfl X1.out.rd s2 true hR.out).mono ?_)
             rintro e w3 ⟨x3, y3, rfl, hd⟩
             have Z := Aside0.mk (X1.out.trans hd)
             obtain ⟨A3, cp3, ey3, hcl3, _⟩ := Kd.R_reads hd.rd.field
             subst ey3
             have k1 : w3.cell? ⟨g, 1, none⟩ = some (.int .i64 s2.most) := (blk_cell hd.rd.blk 1).trans rfl
             have k4 : w3.cell? ⟨g, 4, none⟩ = some (.int .i64 s2.len) := (blk_cell hd.rd.blk 4).trans rfl
             have k15 : w3.cell? ⟨g, 15, none⟩ = some (.slice A3 s2.field.length cp3) := (blk_cell hd.rd.blk 15).trans rfl
             have g1 := blk_frozen hd.rd.blk 1
             have g4 := blk_frozen hd.rd.blk 4
             have g15 := blk_frozen hd.rd.blk 15
             clear hd
             refine ⟨_, rfl, ?_⟩))
        go_still (by kernel_rfl)
        go_wp2
        go_ret
        first | exact ⟨_, _, rfl, Z.out.drew⟩ | exact ⟨rfl, _, _, Z.out.drew⟩
    | false =>
      rw [if_neg (by decide)]
      go_wp2_with (first
        | ((with_reducible refine gate_callee (f := 120) rfl ?_)
           refine goesL_ (some 44) rfl rfl Tryd.func120 (by kernel_rfl) rfl #[.pointer (some ⟨g, 0, none⟩), .int .u8 c] rfl (by (try simp only [List.map_toArray, List.map_cons, List.map_nil]); first | done | rfl) ?_
           (with_reducible refine (requestLine_to base _ g {s with len := s.len + 1} _ (.slice A' s.field.length cp') c hc0 hc1 hl hfl X1.out.rd s2 false hR.out).mono ?_)
           rintro e w3 ⟨x3, y3, rfl, hd⟩
           have Z := Aside0.mk (X1.out.trans hd)
           obtain ⟨A3, cp3, ey3, hcl3, _⟩ := Kd.R_reads hd.rd.field
           subst ey3
           have k1 : w3.cell? ⟨g, 1, none⟩ = some (.int .i64 s2.most) := (blk_cell hd.rd.blk 1).trans rfl
           have k4 : w3.cell? ⟨g, 4, none⟩ = some (.int .i64 s2.len) := (blk_cell hd.rd.blk 4).trans rfl
           have k15 : w3.cell? ⟨g, 15, none⟩ = some (.slice A3 s2.field.length cp3) := (blk_cell hd.rd.blk 15).trans rfl
           have g1 := blk_frozen hd.rd.blk 1
           have g4 := blk_frozen hd.rd.blk 4
           have g15 := blk_frozen hd.rd.blk 15
           clear hd
           refine ⟨_, rfl, ?_⟩))
      go_still (by kernel_rfl)
      go_wp2
      go_ret
      first | exact ⟨_, _, rfl, Z.out.drew⟩ | exact ⟨rfl, _, _, Z.out.drew⟩
set_option maxHeartbeats 3200000 in
theorem byteF (base : Nat) (w : World) (g : Nat) (s : RdSt) (u0 u1 : Value) (c : Int) (hc0 : 0 ≤ c) (hc1 : c ≤ 255) (hl : s.word.length ≤ 1000000) (hfl : s.field.length ≤ 1000000) (hn0 : 0 ≤ s.len) (hn1 : s.len ≤ 1000000) (h : Rd base w g s u0 u1)
    (c6 : ¬s.at_ = 6) (c7 : s.at_ ≥ 7) (s2 : RdSt) (ok : Bool) (hr : ({s with len := s.len + 1} : RdSt).fldLine c = (s2, ok)) :
    Calls Tryd.prog 101 #[.pointer (some ⟨g, 0, none⟩), .int .u8 c] w fun e w' => ∃ v0 v1, e = .returned (errW (judge s2 ok 21)) ∧ St base w g u0 u1 w' s2 v0 v1 := by
  have hR := Aside0.mk hr
  clear hr
  obtain ⟨A', cp', rfl, hcl', _⟩ := Kd.R_reads h.field
  have e0 : w.cell? ⟨g, 0, none⟩ = some (.bool s.asks) := (blk_cell h.blk 0).trans rfl
  have e1 : w.cell? ⟨g, 1, none⟩ = some (.int .i64 s.most) := (blk_cell h.blk 1).trans rfl
  have e2 : w.cell? ⟨g, 2, none⟩ = some (.int .i64 s.at_) := (blk_cell h.blk 2).trans rfl
  have e4 : w.cell? ⟨g, 4, none⟩ = some (.int .i64 s.len) := (blk_cell h.blk 4).trans rfl
  have e15 : w.cell? ⟨g, 15, none⟩ = some (.slice A' s.field.length cp') := (blk_cell h.blk 15).trans rfl
  have f0 := blk_frozen h.blk 0
  have f1 := blk_frozen h.blk 1
  have f2 := blk_frozen h.blk 2
  have f4 := blk_frozen h.blk 4
  have f15 := blk_frozen h.blk 15
  have X := Aside0.mk h.st
  have X1 := Aside0.mk (h.st.put 4 (.int .i64 (s.len + 1)) (s' := {s with len := s.len + 1}) rfl rfl rfl)
  have hw : wrap64 (s.len + 1) = s.len + 1 := by unfold wrap64; omega
  clear h
  go_enter Tryd.func101, Tryd.ntmps101
  have d6 : (s.at_ == 6) = false := by simpa using c6
  have d7 : decide (s.at_ ≥ 7) = true := decide_eq_true c7
  unfold judge
  by_cases hL : s2.len > s2.most
  · rw [if_pos hL]
    have dL := decide_eq_true hL
    cases ok with
    | true =>
      go_wp2_with (first
        | ((with_reducible refine gate_callee (f := 119) rfl ?_)
           refine goesL_ (some 36) rfl rfl Tryd.func119 (by kernel_rfl) rfl #[.pointer (some ⟨g, 0, none⟩), .int .u8 c] rfl (by (try simp only [List.map_toArray, List.map_cons, List.map_nil]); first | done | rfl) ?_
           (with_reducible refine (fieldLine_to base _ g {s with len := s.len + 1} _ (.slice A' s.field.length cp') c hc0 hc1 hl hfl X1.out.rd s2 true hR.out).mono ?_)
           rintro e w3 ⟨x3, y3, rfl, hd⟩
           have Z := Aside0.mk (X1.out.trans hd)
           obtain ⟨A3, cp3, ey3, hcl3, _⟩ := Kd.R_reads hd.rd.field
           subst ey3
           have k1 : w3.cell? ⟨g, 1, none⟩ = some (.int .i64 s2.most) := (blk_cell hd.rd.blk 1).trans rfl
           have k4 : w3.cell? ⟨g, 4, none⟩ = some (.int .i64 s2.len) := (blk_cell hd.rd.blk 4).trans rfl
           have k15 : w3.cell? ⟨g, 15, none⟩ = some (.slice A3 s2.field.length cp3) := (blk_cell hd.rd.blk 15).trans rfl
           have g1 := blk_frozen hd.rd.blk 1
           have g4 := blk_frozen hd.rd.blk 4
           have g15 := blk_frozen hd.rd.blk 15
           clear hd
           refine ⟨_, rfl, ?_⟩))
      go_still (by kernel_rfl)
      go_wp2
      go_ret
      first | exact ⟨_, _, rfl, Z.out.drew⟩ | exact ⟨rfl, _, _, Z.out.drew⟩
    | false =>
      go_wp2_with (first
        | ((with_reducible refine gate_callee (f := 119) rfl ?_)
           refine goesL_ (some 36) rfl rfl Tryd.func119 (by kernel_rfl) rfl #[.pointer (some ⟨g, 0, none⟩), .int .u8 c] rfl (by (try simp only [List.map_toArray, List.map_cons, List.map_nil]); first | done | rfl) ?_
           (with_reducible refine (fieldLine_to base _ g {s with len := s.len + 1} _ (.slice A' s.field.length cp') c hc0 hc1 hl hfl X1.out.rd s2 false hR.out).mono ?_)
           rintro e w3 ⟨x3, y3, rfl, hd⟩
           have Z := Aside0.mk (X1.out.trans hd)
           obtain ⟨A3, cp3, ey3, hcl3, _⟩ := Kd.R_reads hd.rd.field
           subst ey3
           have k1 : w3.cell? ⟨g, 1, none⟩ = some (.int .i64 s2.most) := (blk_cell hd.rd.blk 1).trans rfl
           have k4 : w3.cell? ⟨g, 4, none⟩ = some (.int .i64 s2.len) := (blk_cell hd.rd.blk 4).trans rfl
           have k15 : w3.cell? ⟨g, 15, none⟩ = some (.slice A3 s2.field.length cp3) := (blk_cell hd.rd.blk 15).trans rfl
           have g1 := blk_frozen hd.rd.blk 1
           have g4 := blk_frozen hd.rd.blk 4
           have g15 := blk_frozen hd.rd.blk 15
           clear hd
           refine ⟨_, rfl, ?_⟩))
      go_still (by kernel_rfl)
      go_wp2
      go_ret
      first | exact ⟨_, _, rfl, Z.out.drew⟩ | exact ⟨rfl, _, _, Z.out.drew⟩
  · rw [if_neg hL]
    have dL := decide_eq_false hL
    cases ok with
    | true =>
      rw [if_pos rfl]
      by_cases hF : 64 < s2.field.length
      · rw [if_pos hF]
        have dF : decide ((s2.field.length : Int) > 64) = true := decide_eq_true (by omega)
        go_wp2_with (first
          | ((with_reducible refine gate_callee (f := 119) rfl ?_)
             refine goesL_ (some 36) rfl rfl Tryd.func119 (by kernel_rfl) rfl #[.pointer (some ⟨g, 0, none⟩), .int .u8 c] rfl (by (try simp only [List.map_toArray, List.map_cons, List.map_nil]); first | done | rfl) ?_
             (with_reducible refine (fieldLine_to base _ g {s with len := s.len + 1} _ (.slice A' s.field.length cp') c hc0 hc1 hl hfl X1.out.rd s2 true hR.out).mono ?_)
             rintro e w3 ⟨x3, y3, rfl, hd⟩
             have Z := Aside0.mk (X1.out.trans hd)
             obtain ⟨A3, cp3, ey3, hcl3, _⟩ := Kd.R_reads hd.rd.field
             subst ey3
             have k1 : w3.cell? ⟨g, 1, none⟩ = some (.int .i64 s2.most) := (blk_cell hd.rd.blk 1).trans rfl
             have k4 : w3.cell? ⟨g, 4, none⟩ = some (.int .i64 s2.len) := (blk_cell hd.rd.blk 4).trans rfl
             have k15 : w3.cell? ⟨g, 15, none⟩ = some (.slice A3 s2.field.length cp3) := (blk_cell hd.rd.blk 15).trans rfl
             have g1 := blk_frozen hd.rd.blk 1
             have g4 := blk_frozen hd.rd.blk 4
             have g15 := blk_frozen hd.rd.blk 15
             clear hd
             refine ⟨_, rfl, ?_⟩))
        go_still (by kernel_rfl)
        go_wp2
        go_ret
        first | exact ⟨_, _, rfl, Z.out.drew⟩ | exact ⟨rfl, _, _, Z.out.drew⟩
      · rw [if_neg hF]
        have dF : decide ((s2.field.length : Int) > 64) = false := decide_eq_false (by omega)
        go_wp2_with (first
          | ((with_reducible refine gate_callee (f := 119) rfl ?_)
             refine goesL_ (some 36) rfl rfl Tryd.func119 (by kernel_rfl) rfl #[.pointer (some ⟨g, 0, none⟩), .int .u8 c] rfl (by (try simp only [List.map_toArray, List.map_cons, List.map_nil]); first | done | rfl) ?_
             (with_reducible refine (fieldLine_to base _ g {s with len := s.len + 1} _ (.slice A' s.field.length cp') c hc0 hc1 hl hfl X1.out.rd s2 true hR.out).mono ?_)
             rintro e w3 ⟨x3, y3, rfl, hd⟩
             have Z := Aside0.mk (X1.out.trans hd)
             obtain ⟨A3, cp3, ey3, hcl3, _⟩ := Kd.R_reads hd.rd.field
             subst ey3
             have k1 : w3.cell? ⟨g, 1, none⟩ = some (.int .i64 s2.most) := (blk_cell hd.rd.blk 1).trans rfl
             have k4 : w3.cell? ⟨g, 4, none⟩ = some (.int .i64 s2.len) := (blk_cell hd.rd.blk 4).trans rfl
             have k15 : w3.cell? ⟨g, 15, none⟩ = some (.slice A3 s2.field.length cp3) := (blk_cell hd.rd.blk 15).trans rfl
             have g1 := blk_frozen hd.rd.blk 1
             have g4 := blk_frozen hd.rd.blk 4
             have g15 := blk_frozen hd.rd.blk 15
             clear hd
             refine ⟨_, rfl, ?_⟩))
        go_still (by kernel_rfl)
        go_wp2
        go_ret
        first | exact ⟨_, _, rfl, Z.out.drew⟩ | exact ⟨rfl, _, _, Z.out.drew⟩
    | false =>
      rw [if_neg (by decide)]
      go_wp2_with (first
        | ((with_reducible refine gate_callee (f := 119) rfl ?_)
           refine goesL_ (some 36) rfl rfl Tryd.func119 (by kernel_rfl) rfl #[.pointer (some ⟨g, 0, none⟩), .int .u8 c] rfl (by (try simp only [List.map_toArray, List.map_cons, List.map_nil]); first | done | rfl) ?_
           (with_reducible refine (fieldLine_to base _ g {s with len := s.len + 1} _ (.slice A' s.field.length cp') c hc0 hc1 hl hfl X1.out.rd s2 false hR.out).mono ?_)
           rintro e w3 ⟨x3, y3, rfl, hd⟩
           have Z := Aside0.mk (X1.out.trans hd)
           obtain ⟨A3, cp3, ey3, hcl3, _⟩ := Kd.R_reads hd.rd.field
           subst ey3
           have k1 : w3.cell? ⟨g, 1, none⟩ = some (.int .i64 s2.most) := (blk_cell hd.rd.blk 1).trans rfl
           have k4 : w3.cell? ⟨g, 4, none⟩ = some (.int .i64 s2.len) := (blk_cell hd.rd.blk 4).trans rfl
           have k15 : w3.cell? ⟨g, 15, none⟩ = some (.slice A3 s2.field.length cp3) := (blk_cell hd.rd.blk 15).trans rfl
           have g1 := blk_frozen hd.rd.blk 1
           have g4 := blk_frozen hd.rd.blk 4
           have g15 := blk_frozen hd.rd.blk 15
           clear hd
           refine ⟨_, rfl, ?_⟩))
      go_still (by kernel_rfl)
      go_wp2
      go_ret
      first | exact ⟨_, _, rfl, Z.out.drew⟩ | exact ⟨rfl, _, _, Z.out.drew⟩
set_option maxHeartbeats 3200000 in
theorem byteP (base : Nat) (w : World) (g : Nat) (s : RdSt) (u0 u1 : Value) (c : Int) (hc0 : 0 ≤ c) (hc1 : c ≤ 255) (hl : s.word.length ≤ 1000000) (hfl : s.field.length ≤ 1000000) (hn0 : 0 ≤ s.len) (hn1 : s.len ≤ 1000000) (h : Rd base w g s u0 u1)
    (c6 : ¬s.at_ = 6) (c7 : ¬s.at_ ≥ 7) (ca : s.asks = false) (s2 : RdSt) (ok : Bool) (hr : ({s with len := s.len + 1} : RdSt).statLine c = (s2, ok)) :
    Calls Tryd.prog 101 #[.pointer (some ⟨g, 0, none⟩), .int .u8 c] w fun e w' => ∃ v0 v1, e = .returned (errW (judge s2 ok 20)) ∧ St base w g u0 u1 w' s2 v0 v1 := by
  have hR := Aside0.mk hr
  clear hr
  obtain ⟨A', cp', rfl, hcl', _⟩ := Kd.R_reads h.field
  have e0 : w.cell? ⟨g, 0, none⟩ = some (.bool s.asks) := (blk_cell h.blk 0).trans rfl
  have e1 : w.cell? ⟨g, 1, none⟩ = some (.int .i64 s.most) := (blk_cell h.blk 1).trans rfl
  have e2 : w.cell? ⟨g, 2, none⟩ = some (.int .i64 s.at_) := (blk_cell h.blk 2).trans rfl
  have e4 : w.cell? ⟨g, 4, none⟩ = some (.int .i64 s.len) := (blk_cell h.blk 4).trans rfl
  have e15 : w.cell? ⟨g, 15, none⟩ = some (.slice A' s.field.length cp') := (blk_cell h.blk 15).trans rfl
  have f0 := blk_frozen h.blk 0
  have f1 := blk_frozen h.blk 1
  have f2 := blk_frozen h.blk 2
  have f4 := blk_frozen h.blk 4
  have f15 := blk_frozen h.blk 15
  have X := Aside0.mk h.st
  have X1 := Aside0.mk (h.st.put 4 (.int .i64 (s.len + 1)) (s' := {s with len := s.len + 1}) rfl rfl rfl)
  have hw : wrap64 (s.len + 1) = s.len + 1 := by unfold wrap64; omega
  clear h
  go_enter Tryd.func101, Tryd.ntmps101
  rw [ca] at e0
  have d6 : (s.at_ == 6) = false := by simpa using c6
  have d7 : decide (s.at_ ≥ 7) = false := decide_eq_false c7
  unfold judge
  by_cases hL : s2.len > s2.most
  · rw [if_pos hL]
    have dL := decide_eq_true hL
    cases ok with
    | true =>
      go_wp2_with (first
        | ((with_reducible refine gate_callee (f := 121) rfl ?_)
           refine goesL_ (some 16) rfl rfl Tryd.func121 (by kernel_rfl) rfl #[.pointer (some ⟨g, 0, none⟩), .int .u8 c] rfl (by (try simp only [List.map_toArray, List.map_cons, List.map_nil]); first | done | rfl) ?_
           (with_reducible refine (statusLine_to base _ g {s with len := s.len + 1} _ (.slice A' s.field.length cp') c hc0 hc1 hl hfl X1.out.rd s2 true hR.out).mono ?_)
           rintro e w3 ⟨x3, y3, rfl, hd⟩
           have Z := Aside0.mk (X1.out.trans hd)
           obtain ⟨A3, cp3, ey3, hcl3, _⟩ := Kd.R_reads hd.rd.field
           subst ey3
           have k1 : w3.cell? ⟨g, 1, none⟩ = some (.int .i64 s2.most) := (blk_cell hd.rd.blk 1).trans rfl
           have k4 : w3.cell? ⟨g, 4, none⟩ = some (.int .i64 s2.len) := (blk_cell hd.rd.blk 4).trans rfl
           have k15 : w3.cell? ⟨g, 15, none⟩ = some (.slice A3 s2.field.length cp3) := (blk_cell hd.rd.blk 15).trans rfl
           have g1 := blk_frozen hd.rd.blk 1
           have g4 := blk_frozen hd.rd.blk 4
           have g15 := blk_frozen hd.rd.blk 15
           clear hd
           refine ⟨_, rfl, ?_⟩))
      go_still (by kernel_rfl)
      go_wp2
      go_ret
      first | exact ⟨_, _, rfl, Z.out.drew⟩ | exact ⟨rfl, _, _, Z.out.drew⟩
    | false =>
      go_wp2_with (first
        | ((with_reducible refine gate_callee (f := 121) rfl ?_)
           refine goesL_ (some 16) rfl rfl Tryd.func121 (by kernel_rfl) rfl #[.pointer (some ⟨g, 0, none⟩), .int .u8 c] rfl (by (try simp only [List.map_toArray, List.map_cons, List.map_nil]); first | done | rfl) ?_
           (with_reducible refine (statusLine_to base _ g {s with len := s.len + 1} _ (.slice A' s.field.length cp') c hc0 hc1 hl hfl X1.out.rd s2 false hR.out).mono ?_)
           rintro e w3 ⟨x3, y3, rfl, hd⟩
           have Z := Aside0.mk (X1.out.trans hd)
           obtain ⟨A3, cp3, ey3, hcl3, _⟩ := Kd.R_reads hd.rd.field
           subst ey3
           have k1 : w3.cell? ⟨g, 1, none⟩ = some (.int .i64 s2.most) := (blk_cell hd.rd.blk 1).trans rfl
           have k4 : w3.cell? ⟨g, 4, none⟩ = some (.int .i64 s2.len) := (blk_cell hd.rd.blk 4).trans rfl
           have k15 : w3.cell? ⟨g, 15, none⟩ = some (.slice A3 s2.field.length cp3) := (blk_cell hd.rd.blk 15).trans rfl
           have g1 := blk_frozen hd.rd.blk 1
           have g4 := blk_frozen hd.rd.blk 4
           have g15 := blk_frozen hd.rd.blk 15
           clear hd
           refine ⟨_, rfl, ?_⟩))
      go_still (by kernel_rfl)
      go_wp2
      go_ret
      first | exact ⟨_, _, rfl, Z.out.drew⟩ | exact ⟨rfl, _, _, Z.out.drew⟩
  · rw [if_neg hL]
    have dL := decide_eq_false hL
    cases ok with
    | true =>
      rw [if_pos rfl]
      by_cases hF : 64 < s2.field.length
      · rw [if_pos hF]
        have dF : decide ((s2.field.length : Int) > 64) = true := decide_eq_true (by omega)
        go_wp2_with (first
          | ((with_reducible refine gate_callee (f := 121) rfl ?_)
             refine goesL_ (some 16) rfl rfl Tryd.func121 (by kernel_rfl) rfl #[.pointer (some ⟨g, 0, none⟩), .int .u8 c] rfl (by (try simp only [List.map_toArray, List.map_cons, List.map_nil]); first | done | rfl) ?_
             (with_reducible refine (statusLine_to base _ g {s with len := s.len + 1} _ (.slice A' s.field.length cp') c hc0 hc1 hl hfl X1.out.rd s2 true hR.out).mono ?_)
             rintro e w3 ⟨x3, y3, rfl, hd⟩
             have Z := Aside0.mk (X1.out.trans hd)
             obtain ⟨A3, cp3, ey3, hcl3, _⟩ := Kd.R_reads hd.rd.field
             subst ey3
             have k1 : w3.cell? ⟨g, 1, none⟩ = some (.int .i64 s2.most) := (blk_cell hd.rd.blk 1).trans rfl
             have k4 : w3.cell? ⟨g, 4, none⟩ = some (.int .i64 s2.len) := (blk_cell hd.rd.blk 4).trans rfl
             have k15 : w3.cell? ⟨g, 15, none⟩ = some (.slice A3 s2.field.length cp3) := (blk_cell hd.rd.blk 15).trans rfl
             have g1 := blk_frozen hd.rd.blk 1
             have g4 := blk_frozen hd.rd.blk 4
             have g15 := blk_frozen hd.rd.blk 15
             clear hd
             refine ⟨_, rfl, ?_⟩))
        go_still (by kernel_rfl)
        go_wp2
        go_ret
        first | exact ⟨_, _, rfl, Z.out.drew⟩ | exact ⟨rfl, _, _, Z.out.drew⟩
      · rw [if_neg hF]
        have dF : decide ((s2.field.length : Int) > 64) = false := decide_eq_false (by omega)
        go_wp2_with (first
          | ((with_reducible refine gate_callee (f := 121) rfl ?_)
             refine goesL_ (some 16) rfl rfl Tryd.func121 (by kernel_rfl) rfl #[.pointer (some ⟨g, 0, none⟩), .int .u8 c] rfl (by (try simp only [List.map_toArray, List.map_cons, List.map_nil]); first | done | rfl) ?_
             (with_reducible refine (statusLine_to base _ g {s with len := s.len + 1} _ (.slice A' s.field.length cp') c hc0 hc1 hl hfl X1.out.rd s2 true hR.out).mono ?_)
             rintro e w3 ⟨x3, y3, rfl, hd⟩
             have Z := Aside0.mk (X1.out.trans hd)
             obtain ⟨A3, cp3, ey3, hcl3, _⟩ := Kd.R_reads hd.rd.field
             subst ey3
             have k1 : w3.cell? ⟨g, 1, none⟩ = some (.int .i64 s2.most) := (blk_cell hd.rd.blk 1).trans rfl
             have k4 : w3.cell? ⟨g, 4, none⟩ = some (.int .i64 s2.len) := (blk_cell hd.rd.blk 4).trans rfl
             have k15 : w3.cell? ⟨g, 15, none⟩ = some (.slice A3 s2.field.length cp3) := (blk_cell hd.rd.blk 15).trans rfl
             have g1 := blk_frozen hd.rd.blk 1
             have g4 := blk_frozen hd.rd.blk 4
             have g15 := blk_frozen hd.rd.blk 15
             clear hd
             refine ⟨_, rfl, ?_⟩))
        go_still (by kernel_rfl)
        go_wp2
        go_ret
        first | exact ⟨_, _, rfl, Z.out.drew⟩ | exact ⟨rfl, _, _, Z.out.drew⟩
    | false =>
      rw [if_neg (by decide)]
      go_wp2_with (first
        | ((with_reducible refine gate_callee (f := 121) rfl ?_)
           refine goesL_ (some 16) rfl rfl Tryd.func121 (by kernel_rfl) rfl #[.pointer (some ⟨g, 0, none⟩), .int .u8 c] rfl (by (try simp only [List.map_toArray, List.map_cons, List.map_nil]); first | done | rfl) ?_
           (with_reducible refine (statusLine_to base _ g {s with len := s.len + 1} _ (.slice A' s.field.length cp') c hc0 hc1 hl hfl X1.out.rd s2 false hR.out).mono ?_)
           rintro e w3 ⟨x3, y3, rfl, hd⟩
           have Z := Aside0.mk (X1.out.trans hd)
           obtain ⟨A3, cp3, ey3, hcl3, _⟩ := Kd.R_reads hd.rd.field
           subst ey3
           have k1 : w3.cell? ⟨g, 1, none⟩ = some (.int .i64 s2.most) := (blk_cell hd.rd.blk 1).trans rfl
           have k4 : w3.cell? ⟨g, 4, none⟩ = some (.int .i64 s2.len) := (blk_cell hd.rd.blk 4).trans rfl
           have k15 : w3.cell? ⟨g, 15, none⟩ = some (.slice A3 s2.field.length cp3) := (blk_cell hd.rd.blk 15).trans rfl
           have g1 := blk_frozen hd.rd.blk 1
           have g4 := blk_frozen hd.rd.blk 4
           have g15 := blk_frozen hd.rd.blk 15
           clear hd
           refine ⟨_, rfl, ?_⟩))
      go_still (by kernel_rfl)
      go_wp2
      go_ret
      first | exact ⟨_, _, rfl, Z.out.drew⟩ | exact ⟨rfl, _, _, Z.out.drew⟩
set_option maxHeartbeats 3200000 in
theorem byteE (base : Nat) (w : World) (g : Nat) (s : RdSt) (u0 u1 : Value) (c : Int) (hc0 : 0 ≤ c) (hc1 : c ≤ 255) (hl : s.word.length ≤ 1000000) (hfl : s.field.length ≤ 1000000) (hn0 : 0 ≤ s.len) (hn1 : s.len ≤ 1000000) (h : Rd base w g s u0 u1)
    (c6 : s.at_ = 6) :
    Calls Tryd.prog 101 #[.pointer (some ⟨g, 0, none⟩), .int .u8 c] w fun e w' => ∃ v0 v1, e = .returned (errW (judge {s with len := s.len + 1, at_ := 7} (c == 10) 20)) ∧ St base w g u0 u1 w' {s with len := s.len + 1, at_ := 7} v0 v1 := by
  obtain ⟨A', cp', rfl, hcl', _⟩ := Kd.R_reads h.field
  have e0 : w.cell? ⟨g, 0, none⟩ = some (.bool s.asks) := (blk_cell h.blk 0).trans rfl
  have e1 : w.cell? ⟨g, 1, none⟩ = some (.int .i64 s.most) := (blk_cell h.blk 1).trans rfl
  have e2 : w.cell? ⟨g, 2, none⟩ = some (.int .i64 s.at_) := (blk_cell h.blk 2).trans rfl
  have e4 : w.cell? ⟨g, 4, none⟩ = some (.int .i64 s.len) := (blk_cell h.blk 4).trans rfl
  have e15 : w.cell? ⟨g, 15, none⟩ = some (.slice A' s.field.length cp') := (blk_cell h.blk 15).trans rfl
  have f0 := blk_frozen h.blk 0
  have f1 := blk_frozen h.blk 1
  have f2 := blk_frozen h.blk 2
  have f4 := blk_frozen h.blk 4
  have f15 := blk_frozen h.blk 15
  have X := Aside0.mk h.st
  have X1 := Aside0.mk (h.st.put 4 (.int .i64 (s.len + 1)) (s' := {s with len := s.len + 1}) rfl rfl rfl)
  have hw : wrap64 (s.len + 1) = s.len + 1 := by unfold wrap64; omega
  clear h
  go_enter Tryd.func101, Tryd.ntmps101
  have d6 : (s.at_ == 6) = true := by simpa using c6
  have Z := Aside0.mk (X1.out.put 2 (.int .i64 7) (s' := {s with len := s.len + 1, at_ := 7}) rfl rfl rfl)
  unfold judge
  by_cases hL : s.len + 1 > s.most
  · rw [if_pos hL]
    have dL := decide_eq_true hL
    go_wp2
    generalize (w.setCell ⟨g, 4, none⟩ (.int .i64 (s.len + 1))).setCell ⟨g, 2, none⟩ (.int .i64 7) = w3 at Z ⊢
    have k1 : w3.cell? ⟨g, 1, none⟩ = some (.int .i64 s.most) := (blk_cell Z.out.rd.blk 1).trans rfl
    have k4 : w3.cell? ⟨g, 4, none⟩ = some (.int .i64 (s.len + 1)) := (blk_cell Z.out.rd.blk 4).trans rfl
    have k15 : w3.cell? ⟨g, 15, none⟩ = some (.slice A' s.field.length cp') := (blk_cell Z.out.rd.blk 15).trans rfl
    have g1 := blk_frozen Z.out.rd.blk 1
    have g4 := blk_frozen Z.out.rd.blk 4
    have g15 := blk_frozen Z.out.rd.blk 15
    go_still (by kernel_rfl)
    go_wp2
    go_ret
    first | exact ⟨_, _, rfl, Z.out.drew⟩ | exact ⟨rfl, _, _, Z.out.drew⟩
  · rw [if_neg hL]
    have dL := decide_eq_false hL
    by_cases hc : c = 10
    · subst hc
      have dc : ((10 : Int) == 10) = true := rfl
      rw [dc, if_pos rfl]
      by_cases hF : 64 < s.field.length
      · rw [if_pos hF]
        have dF : decide ((s.field.length : Int) > 64) = true := decide_eq_true (by omega)
        go_wp2
        generalize (w.setCell ⟨g, 4, none⟩ (.int .i64 (s.len + 1))).setCell ⟨g, 2, none⟩ (.int .i64 7) = w3 at Z ⊢
        have k1 : w3.cell? ⟨g, 1, none⟩ = some (.int .i64 s.most) := (blk_cell Z.out.rd.blk 1).trans rfl
        have k4 : w3.cell? ⟨g, 4, none⟩ = some (.int .i64 (s.len + 1)) := (blk_cell Z.out.rd.blk 4).trans rfl
        have k15 : w3.cell? ⟨g, 15, none⟩ = some (.slice A' s.field.length cp') := (blk_cell Z.out.rd.blk 15).trans rfl
        have g1 := blk_frozen Z.out.rd.blk 1
        have g4 := blk_frozen Z.out.rd.blk 4
        have g15 := blk_frozen Z.out.rd.blk 15
        go_still (by kernel_rfl)
        go_wp2
        go_ret
        first | exact ⟨_, _, rfl, Z.out.drew⟩ | exact ⟨rfl, _, _, Z.out.drew⟩
      · rw [if_neg hF]
        have dF : decide ((s.field.length : Int) > 64) = false := decide_eq_false (by omega)
        go_wp2
        generalize (w.setCell ⟨g, 4, none⟩ (.int .i64 (s.len + 1))).setCell ⟨g, 2, none⟩ (.int .i64 7) = w3 at Z ⊢
        have k1 : w3.cell? ⟨g, 1, none⟩ = some (.int .i64 s.most) := (blk_cell Z.out.rd.blk 1).trans rfl
        have k4 : w3.cell? ⟨g, 4, none⟩ = some (.int .i64 (s.len + 1)) := (blk_cell Z.out.rd.blk 4).trans rfl
        have k15 : w3.cell? ⟨g, 15, none⟩ = some (.slice A' s.field.length cp') := (blk_cell Z.out.rd.blk 15).trans rfl
        have g1 := blk_frozen Z.out.rd.blk 1
        have g4 := blk_frozen Z.out.rd.blk 4
        have g15 := blk_frozen Z.out.rd.blk 15
        go_still (by kernel_rfl)
        go_wp2
        go_ret
        first | exact ⟨_, _, rfl, Z.out.drew⟩ | exact ⟨rfl, _, _, Z.out.drew⟩
    · have dc : (c == 10) = false := by simpa using hc
      rw [dc, if_neg (by decide)]
      go_wp2
      generalize (w.setCell ⟨g, 4, none⟩ (.int .i64 (s.len + 1))).setCell ⟨g, 2, none⟩ (.int .i64 7) = w3 at Z ⊢
      have k1 : w3.cell? ⟨g, 1, none⟩ = some (.int .i64 s.most) := (blk_cell Z.out.rd.blk 1).trans rfl
      have k4 : w3.cell? ⟨g, 4, none⟩ = some (.int .i64 (s.len + 1)) := (blk_cell Z.out.rd.blk 4).trans rfl
      have k15 : w3.cell? ⟨g, 15, none⟩ = some (.slice A' s.field.length cp') := (blk_cell Z.out.rd.blk 15).trans rfl
      have g1 := blk_frozen Z.out.rd.blk 1
      have g4 := blk_frozen Z.out.rd.blk 4
      have g15 := blk_frozen Z.out.rd.blk 15
      go_still (by kernel_rfl)
      go_wp2
      go_ret
      first | exact ⟨_, _, rfl, Z.out.drew⟩ | exact ⟨rfl, _, _, Z.out.drew⟩
def RdSt.byte (s : RdSt) (c : Int) : RdSt × Option Int :=
  if s.at_ = 6 then ({s with len := s.len + 1, at_ := 7}, judge {s with len := s.len + 1, at_ := 7} (c == 10) 20)
  else if s.at_ ≥ 7 then ((({s with len := s.len + 1} : RdSt).fldLine c).1, judge (({s with len := s.len + 1} : RdSt).fldLine c).1 (({s with len := s.len + 1} : RdSt).fldLine c).2 21)
  else if s.asks = true then ((({s with len := s.len + 1} : RdSt).reqLine c).1, judge (({s with len := s.len + 1} : RdSt).reqLine c).1 (({s with len := s.len + 1} : RdSt).reqLine c).2 20)
  else ((({s with len := s.len + 1} : RdSt).statLine c).1, judge (({s with len := s.len + 1} : RdSt).statLine c).1 (({s with len := s.len + 1} : RdSt).statLine c).2 20)
theorem byte_calls (base : Nat) (w : World) (g : Nat) (s : RdSt) (u0 u1 : Value) (c : Int) (hc0 : 0 ≤ c) (hc1 : c ≤ 255) (hl : s.word.length ≤ 1000000) (hfl : s.field.length ≤ 1000000) (hn0 : 0 ≤ s.len) (hn1 : s.len ≤ 1000000) (h : Rd base w g s u0 u1) :
    Calls Tryd.prog 101 #[.pointer (some ⟨g, 0, none⟩), .int .u8 c] w fun e w' => ∃ v0 v1, e = .returned (errW (s.byte c).2) ∧ St base w g u0 u1 w' (s.byte c).1 v0 v1 := by
  unfold RdSt.byte
  by_cases c6 : s.at_ = 6
  · rw [if_pos c6]
    exact byteE base w g s u0 u1 c hc0 hc1 hl hfl hn0 hn1 h c6
  · rw [if_neg c6]
    by_cases c7 : s.at_ ≥ 7
    · rw [if_pos c7]
      exact byteF base w g s u0 u1 c hc0 hc1 hl hfl hn0 hn1 h c6 c7 _ _ rfl
    · rw [if_neg c7]
      by_cases ca : s.asks = true
      · rw [if_pos ca]
        exact byteQ base w g s u0 u1 c hc0 hc1 hl hfl hn0 hn1 h c6 c7 ca _ _ rfl
      · rw [if_neg ca]
        exact byteP base w g s u0 u1 c hc0 hc1 hl hfl hn0 hn1 h c6 c7 (by simpa using ca) _ _ rfl
end Go.Proofs.YtdmbgbennlnpcaaDoor.Hd
namespace Go.Proofs.YtdmbgbennlnpcaaDoor.Hd
open Go.RowKit Go.Proofs.YtdmbgbennlnpcaaDoorW.PrintWords Go.Proofs.YtdmbgbennlnpcaaDoorW.PrintLast Go.Proofs.YtdmbgbennlnpcaaDoorW.PrintMore
set_option linter.unusedVariables false
set_option linter.unusedSimpArgs false
set_option maxRecDepth 8000
def RdSt.new (most : Int) (asks : Bool) (at_ : Int) : RdSt := ⟨asks, most, at_, [], 0, none, ⟨#[]⟩, ⟨#[]⟩, 0, 0, ⟨#[]⟩, 0, ⟨#[]⟩, []⟩
theorem start_bad (w : World) (most : Int) (asks : Bool) (at_ : Int) (hm : most < 1 ∨ most > 65536) :
    Calls Tryd.prog 88 #[.int .i64 most, .bool asks, .int .i64 at_] w fun e w' => e = .returned (.tuple #[.pointer none, errW (some 1)]) ∧ Below w.heap.size w w' := by
  go_enter Tryd.func88, Tryd.ntmps88
  by_cases c1 : most < 1
  · have d1 := decide_eq_true c1
    go_wp2
    go_ret2
    exact ⟨rfl, Below.refl _ _⟩
  · have d1 := decide_eq_false c1
    have d2 : decide (most > 65536) = true := decide_eq_true (by omega)
    go_wp2
    go_ret2
    exact ⟨rfl, Below.refl _ _⟩
theorem start_good (w : World) (most : Int) (asks : Bool) (at_ : Int) (hm : ¬(most < 1 ∨ most > 65536)) :
    Calls Tryd.prog 88 #[.int .i64 most, .bool asks, .int .i64 at_] w fun e w' => ∃ g, e = .returned (.tuple #[.pointer (some ⟨g, 0, none⟩), errW none]) ∧ Rd w.heap.size w' g (RdSt.new most asks at_) (.slice none 0 0) (.slice none 0 0) ∧ Below w.heap.size w w' := by
  have d1 : decide (most < 1) = false := decide_eq_false (by omega)
  have d2 : decide (most > 65536) = false := decide_eq_false (by omega)
  clear hm
  go_enter Tryd.func88, Tryd.ntmps88
  go_wp2
  go_ret2
  exact ⟨w.heap.size, rfl, ⟨blk_new w _, Kd.R_nil _ _ _ _ _, Kd.R_nil _ _ _ _ _, Nat.le_refl _, by simp⟩, below_alloc (Below.refl _ _) _⟩
theorem newRequest_bad (w : World) (most : Int) (hm : most < 1 ∨ most > 65536) :
    Calls Tryd.prog 70 #[.int .i64 most] w fun e w' => e = .returned (.tuple #[.pointer none, errW (some 1)]) ∧ Below w.heap.size w w' := by
  go_enter Tryd.func70, Tryd.ntmps70
  go_wp2_with (first
    | ((with_reducible refine gate_callee (f := 88) rfl ?_)
       refine goesL_ (some 5) rfl rfl Tryd.func88 (by kernel_rfl) rfl #[.int .i64 most, .bool true, .int .i64 0] rfl (by (try simp only [List.map_toArray, List.map_cons, List.map_nil]); first | done | rfl) ?_
       (with_reducible refine (start_bad _ most true 0 hm).mono ?_)
       rintro e w2 ⟨rfl, hd⟩
       have Z := Aside0.mk hd
       clear hd
       refine ⟨_, rfl, ?_⟩))
  go_ret2
  exact ⟨rfl, Z.out⟩
theorem newRequest_good (w : World) (most : Int) (hm : ¬(most < 1 ∨ most > 65536)) :
    Calls Tryd.prog 70 #[.int .i64 most] w fun e w' => ∃ g, e = .returned (.tuple #[.pointer (some ⟨g, 0, none⟩), errW none]) ∧ Rd w.heap.size w' g (RdSt.new most true 0) (.slice none 0 0) (.slice none 0 0) ∧ Below w.heap.size w w' := by
  go_enter Tryd.func70, Tryd.ntmps70
  go_wp2_with (first
    | ((with_reducible refine gate_callee (f := 88) rfl ?_)
       refine goesL_ (some 5) rfl rfl Tryd.func88 (by kernel_rfl) rfl #[.int .i64 most, .bool true, .int .i64 0] rfl (by (try simp only [List.map_toArray, List.map_cons, List.map_nil]); first | done | rfl) ?_
       (with_reducible refine (start_good _ most true 0 hm).mono ?_)
       rintro e w2 ⟨g, rfl, hr, hd⟩
       have Z := Aside0.mk (And.intro hr hd)
       clear hd hr
       refine ⟨_, rfl, ?_⟩))
  go_ret2
  exact ⟨g, rfl, Z.out.1, Z.out.2⟩
theorem newResponse_bad (w : World) (most : Int) (hm : most < 1 ∨ most > 65536) :
    Calls Tryd.prog 73 #[.int .i64 most] w fun e w' => e = .returned (.tuple #[.pointer none, errW (some 1)]) ∧ Below w.heap.size w w' := by
  go_enter Tryd.func73, Tryd.ntmps73
  go_wp2_with (first
    | ((with_reducible refine gate_callee (f := 88) rfl ?_)
       refine goesL_ (some 5) rfl rfl Tryd.func88 (by kernel_rfl) rfl #[.int .i64 most, .bool false, .int .i64 3] rfl (by (try simp only [List.map_toArray, List.map_cons, List.map_nil]); first | done | rfl) ?_
       (with_reducible refine (start_bad _ most false 3 hm).mono ?_)
       rintro e w2 ⟨rfl, hd⟩
       have Z := Aside0.mk hd
       clear hd
       refine ⟨_, rfl, ?_⟩))
  go_ret2
  exact ⟨rfl, Z.out⟩
theorem newResponse_good (w : World) (most : Int) (hm : ¬(most < 1 ∨ most > 65536)) :
    Calls Tryd.prog 73 #[.int .i64 most] w fun e w' => ∃ g, e = .returned (.tuple #[.pointer (some ⟨g, 0, none⟩), errW none]) ∧ Rd w.heap.size w' g (RdSt.new most false 3) (.slice none 0 0) (.slice none 0 0) ∧ Below w.heap.size w w' := by
  go_enter Tryd.func73, Tryd.ntmps73
  go_wp2_with (first
    | ((with_reducible refine gate_callee (f := 88) rfl ?_)
       refine goesL_ (some 5) rfl rfl Tryd.func88 (by kernel_rfl) rfl #[.int .i64 most, .bool false, .int .i64 3] rfl (by (try simp only [List.map_toArray, List.map_cons, List.map_nil]); first | done | rfl) ?_
       (with_reducible refine (start_good _ most false 3 hm).mono ?_)
       rintro e w2 ⟨g, rfl, hr, hd⟩
       have Z := Aside0.mk (And.intro hr hd)
       clear hd hr
       refine ⟨_, rfl, ?_⟩))
  go_ret2
  exact ⟨g, rfl, Z.out.1, Z.out.2⟩
section
variable {base : Nat} {W : World} {g : Nat} {s : RdSt} {v0 v1 : Value}
theorem Rd.c0 (h : Rd base W g s v0 v1) : W.cell? ⟨g, 0, none⟩ = some (.bool s.asks) := (blk_cell h.blk 0).trans rfl
theorem Rd.c1 (h : Rd base W g s v0 v1) : W.cell? ⟨g, 1, none⟩ = some (.int .i64 s.most) := (blk_cell h.blk 1).trans rfl
theorem Rd.c2 (h : Rd base W g s v0 v1) : W.cell? ⟨g, 2, none⟩ = some (.int .i64 s.at_) := (blk_cell h.blk 2).trans rfl
theorem Rd.c4 (h : Rd base W g s v0 v1) : W.cell? ⟨g, 4, none⟩ = some (.int .i64 s.len) := (blk_cell h.blk 4).trans rfl
theorem Rd.c5 (h : Rd base W g s v0 v1) : W.cell? ⟨g, 5, none⟩ = some (errW s.err) := (blk_cell h.blk 5).trans rfl
theorem Rd.c15 (h : Rd base W g s v0 v1) : W.cell? ⟨g, 15, none⟩ = some v1 := (blk_cell h.blk 15).trans rfl
end
def RdSt.done (s : RdSt) (asks : Bool) : Bool := s.err.isNone && s.at_ == 11 && s.asks == asks
theorem done_calls (base : Nat) (w : World) (g : Nat) (s : RdSt) (u0 u1 : Value) (asks : Bool) (h : Rd base w g s u0 u1) :
    Calls Tryd.prog 90 #[.pointer (some ⟨g, 0, none⟩), .bool asks] w fun e w' => e = .returned (.bool (s.done asks)) ∧ Below w.heap.size w w' := by
  have k0 := h.c0
  have k2 := h.c2
  have k5 := h.c5
  have f0 := blk_frozen h.blk 0
  have f2 := blk_frozen h.blk 2
  have f5 := blk_frozen h.blk 5
  have X := Aside0.mk h
  clear h
  unfold RdSt.done
  go_enter Tryd.func90, Tryd.ntmps90
  cases he : s.err with
  | some x =>
    rw [he, errW_some] at k5
    clear he
    go_wp2
    go_ret
    exact ⟨rfl, Below.refl _ _⟩
  | none =>
    rw [he, errW_none] at k5
    clear he
    by_cases ha : s.at_ = 11
    · have da : (s.at_ == 11) = true := by simpa using ha
      rw [ha] at k2
      rw [da]
      clear ha da
      go_wp2
      go_ret
      exact ⟨rfl, Below.refl _ _⟩
    · have da : (s.at_ == 11) = false := by simpa using ha
      rw [da]
      clear ha
      go_wp2
      go_ret
      exact ⟨rfl, Below.refl _ _⟩
end Go.Proofs.YtdmbgbennlnpcaaDoor.Hd
namespace Go.Proofs.YtdmbgbennlnpcaaDoor.Hd
open Go.RowKit Go.Proofs.YtdmbgbennlnpcaaDoorW.PrintWords Go.Proofs.YtdmbgbennlnpcaaDoorW.PrintLast Go.Proofs.YtdmbgbennlnpcaaDoorW.PrintMore
set_option linter.unusedVariables false
set_option linter.unusedSimpArgs false
set_option maxRecDepth 8000
structure RdSt.OK (s : RdSt) : Prop where
  word : (s.word.length : Int) ≤ s.len
  field : (s.field.length : Int) ≤ s.len
  len : 0 ≤ s.len
  most : s.most ≤ 65536
  in_ : s.err = none → s.len ≤ s.most
structure Near (s t : RdSt) : Prop where
  word : t.word.length ≤ s.word.length + 1
  field : t.field.length ≤ s.field.length + 1
  len : t.len = s.len
  most : t.most = s.most
  asks : t.asks = s.asks
theorem req_near (s : RdSt) (c : Int) : Near s (s.reqLine c).1 := by
  unfold RdSt.reqLine
  (repeat' split) <;> constructor <;> simp [RdSt.push, RdSt.taken]
theorem stat_near (s : RdSt) (c : Int) : Near s (s.statLine c).1 := by
  unfold RdSt.statLine
  (repeat' split) <;> constructor <;> simp [RdSt.push, RdSt.taken]
theorem fld_near (s : RdSt) (c : Int) : Near s (s.fldLine c).1 := by
  unfold RdSt.fldLine
  (repeat' split) <;> constructor <;> simp [RdSt.push, RdSt.taken]
theorem judge_in (s2 : RdSt) (ok : Bool) (er : Int) (h : judge s2 ok er = none) : s2.len ≤ s2.most := by
  unfold judge at h
  split at h
  · cases h
  · omega
theorem byte_ok (s : RdSt) (c : Int) (h : s.OK) : RdSt.OK {(s.byte c).1 with err := (s.byte c).2} := by
  have key : ∀ (t : RdSt) (ok : Bool) (er : Int), Near {s with len := s.len + 1} t → RdSt.OK {t with err := judge t ok er} := by
    intro t ok er n
    have h1 := h.word
    have h2 := h.field
    have h3 := h.len
    have n1 := n.word
    have n2 := n.field
    have n3 : t.len = s.len + 1 := n.len
    have n4 : t.most = s.most := n.most
    refine ⟨?_, ?_, ?_, ?_, fun e => judge_in t ok er e⟩
    · show (t.word.length : Int) ≤ t.len
      have : t.word.length ≤ s.word.length + 1 := n1
      omega
    · show (t.field.length : Int) ≤ t.len
      have : t.field.length ≤ s.field.length + 1 := n2
      omega
    · show 0 ≤ t.len
      omega
    · show t.most ≤ 65536
      have := h.most
      omega
  unfold RdSt.byte
  split
  · exact key {s with len := s.len + 1, at_ := 7} _ _ (by constructor <;> simp)
  · split
    · exact key _ _ _ (fld_near _ _)
    · split
      · exact key _ _ _ (req_near _ _)
      · exact key _ _ _ (stat_near _ _)
def RdSt.feed : RdSt → List Int → RdSt × Nat
  | s, [] => (s, 0)
  | s, c :: l => if s.err = none ∧ s.at_ ≠ 11 then ((({(s.byte c).1 with err := (s.byte c).2} : RdSt).feed l).1, (({(s.byte c).1 with err := (s.byte c).2} : RdSt).feed l).2 + 1) else (s, 0)
theorem feed_stop (s : RdSt) (h : ¬(s.err = none ∧ s.at_ ≠ 11)) : ∀ l, s.feed l = (s, 0)
  | [] => rfl
  | c :: l => by rw [RdSt.feed, if_neg h]
theorem feed_go (s : RdSt) (h : s.err = none ∧ s.at_ ≠ 11) (c : Int) (l : List Int) : s.feed (c :: l) = ((({(s.byte c).1 with err := (s.byte c).2} : RdSt).feed l).1, (({(s.byte c).1 with err := (s.byte c).2} : RdSt).feed l).2 + 1) := by rw [RdSt.feed, if_pos h]
set_option maxHeartbeats 3200000 in
theorem feed_callsG (base : Nat) (w : World) (g : Nat) (s : RdSt) (u0 u1 : Value) (A : Option Addr) (bs : List Int) (cb : Nat) (hC : ∀ W' v0 v1, Chg base w g u0 u1 W' v0 v1 → (Kd.int .u8).C W' A bs.length bs) (hn : bs.length ≤ 9000000000000000000) (hx : ∀ x, x ∈ bs → 0 ≤ x ∧ x ≤ 255)
    (ho : s.OK) (h : Rd base w g s u0 u1) :
    Calls Tryd.prog 89 #[.pointer (some ⟨g, 0, none⟩), .slice A bs.length cb] w fun e w' =>
      ∃ v0 v1, e = .returned (.tuple #[.int .i64 ((s.feed bs).2 : Int), .bool ((s.feed bs).1.err.isNone && (s.feed bs).1.at_ == 11), errW (s.feed bs).1.err]) ∧ St base w g u0 u1 w' (s.feed bs).1 v0 v1 := by
  have HC := Aside0.mk hC
  have HO := Aside0.mk ho
  have HX := Aside0.mk hx
  have X := Aside0.mk h.st
  clear hC ho hx h
  go_enter Tryd.func89, Tryd.ntmps89
  go_wp2
  go_loopg [7] (bs.length + 1) (fun kq v7 w' => ∃ (i : Nat) (s' : RdSt) (v0 v1 : Value), v7 = .int .i64 (i : Int) ∧ Aside0 (i + kq = bs.length + 1 ∧ i ≤ bs.length ∧ s'.OK ∧ (s.feed bs).1 = (s'.feed (bs.drop i)).1 ∧ (s.feed bs).2 = i + (s'.feed (bs.drop i)).2) ∧ Aside0 (St base w g u0 u1 w' s' v0 v1))
  case atStart => exact ⟨0, s, u0, u1, rfl, ⟨by omega, by omega, HO.out, rfl, by simp⟩, X⟩
  case round =>
    obtain ⟨i, s', v0, v1, rfl, HI, Y⟩ := hrel
    clear X
    have k2 := Y.out.rd.c2
    have k5 := Y.out.rd.c5
    have g2 := blk_frozen Y.out.rd.blk 2
    have g5 := blk_frozen Y.out.rd.blk 5
    by_cases hi : i < bs.length
    · have di : decide ((i : Int) < (bs.length : Int)) = true := decide_eq_true (by omega)
      cases he : s'.err with
      | some x =>
        rw [he, errW_some] at k5
        have hs := feed_stop s' (fun q => by rw [he] at q; exact absurd q.1 (by simp)) (bs.drop i)
        have E1 : (s.feed bs).1 = s' := by rw [HI.out.2.2.2.1, hs]
        have E2 : (s.feed bs).2 = i := by rw [HI.out.2.2.2.2, hs]; rfl
        have EE := Aside0.mk (And.intro E1 (And.intro E2 he))
        clear hs E1 E2 he
        go_wp2
        go_still (by kernel_rfl)
        go_wp2
        go_ret3
        refine ⟨v0, v1, ?_, ?_⟩
        · rw [EE.out.1, EE.out.2.1, EE.out.2.2]; rfl
        · rw [EE.out.1]; exact Y.out.drew
      | none =>
        rw [he, errW_none] at k5
        by_cases ha : s'.at_ = 11
        · have hs := feed_stop s' (fun q => q.2 ha) (bs.drop i)
          have E1 : (s.feed bs).1 = s' := by rw [HI.out.2.2.2.1, hs]
          have E2 : (s.feed bs).2 = i := by rw [HI.out.2.2.2.2, hs]; rfl
          have EE := Aside0.mk (And.intro E1 (And.intro E2 (And.intro he ha)))
          have da : (s'.at_ == 11) = true := by simpa using ha
          rw [ha] at k2
          clear hs E1 E2 he ha da
          go_wp2
          go_still (by kernel_rfl)
          go_wp2
          go_ret3
          refine ⟨v0, v1, ?_, ?_⟩
          · rw [EE.out.1, EE.out.2.1, EE.out.2.2.1, EE.out.2.2.2]; rfl
          · rw [EE.out.1]; exact Y.out.drew
        · have da : (s'.at_ == 11) = false := by simpa using ha
          have EE := Aside0.mk (And.intro he ha)
          clear he ha
          obtain ⟨ad, ea, hx⟩ := Kd.at_int (HC.out _ _ _ Y.out.chg) (i : Int) (by omega) (by omega)
          subst ea
          rw [Int.toNat_natCast] at hx
          have hcx : 0 ≤ rd bs (i : Int) ∧ rd bs (i : Int) ≤ 255 := by
            unfold rd
            rw [Int.toNat_natCast, List.getD_eq_getElem?_getD, List.getElem?_eq_getElem hi, Option.getD_some]
            exact HX.out _ (List.getElem_mem hi)
          have hdr : bs.drop i = rd bs (i : Int) :: bs.drop (i + 1) := by
            unfold rd
            rw [Int.toNat_natCast, List.getD_eq_getElem?_getD, List.getElem?_eq_getElem hi, Option.getD_some]
            exact List.drop_eq_getElem_cons hi
          have hw : wrap64 ((i : Int) + 1) = (i : Int) + 1 := by unfold wrap64; omega
          have HI2 := Aside0.mk (And.intro hi (And.intro hdr hcx))
          clear hdr hcx
          have p : (0 ≤ (i : Int)) = True := eq_true (by omega)
          have q : ((i : Int) < (bs.length : Int)) = True := eq_true (by omega)
          cases gk with
          | zero => exact absurd HI.out.1 (by omega)
          | succ k1 =>
          cases hrb : (s'.byte (rd bs (i : Int))).2 with
          | none =>
            have HRB := Aside0.mk hrb
            clear hrb
            go_wp2_with (first
              | ((with_reducible refine gate_callee (f := 101) rfl ?_)
                 refine goesL_ (some 35) rfl rfl Tryd.func101 (by kernel_rfl) rfl #[.pointer (some ⟨g, 0, none⟩), .int .u8 (rd bs (i : Int))] rfl (by (try simp only [List.map_toArray, List.map_cons, List.map_nil]); first | done | rfl) ?_
                 (with_reducible refine (byte_calls _ _ g s' v0 v1 (rd bs (i : Int)) HI2.out.2.2.1 HI2.out.2.2.2 (by have := HI.out.2.2.1; have := this.most; have := HI.out.2.2.1.word; have := HI.out.2.2.1.in_ EE.out.1; omega) (by have := HI.out.2.2.1; have := this.most; have := HI.out.2.2.1.field; have := HI.out.2.2.1.in_ EE.out.1; omega) HI.out.2.2.1.len (by have := HI.out.2.2.1; have := this.most; have := HI.out.2.2.1.in_ EE.out.1; omega) Y.out.rd).mono ?_)
                 rintro e w3 ⟨x3, y3, rfl, hd⟩
                 have Z := Aside0.mk (Y.out.trans hd)
                 have k5' := hd.rd.c5
                 have g5' := blk_frozen hd.rd.blk 5
                 clear hd
                 rw [HRB.out, errW_none]
                 refine ⟨_, rfl, ?_⟩))
            go_roundg k1
            case measure => omega
            case rel =>
              refine ⟨i + 1, {(s'.byte (rd bs (i : Int))).1 with err := (s'.byte (rd bs (i : Int))).2}, x3, y3, by push_cast; rfl, ⟨?_⟩, ⟨Z.out.put 5 .nilIface (by rw [HRB.out]; rfl) rfl rfl⟩⟩
              have h1 := HI.out
              have h2 := HI2.out
              refine ⟨by omega, by omega, byte_ok s' _ h1.2.2.1, ?_, ?_⟩
              · rw [h1.2.2.2.1, h2.2.1, feed_go s' EE.out]
              · rw [h1.2.2.2.2, h2.2.1, feed_go s' EE.out]
                show i + (_ + 1) = i + 1 + _
                omega
          | some x =>
            have HRB := Aside0.mk hrb
            clear hrb
            go_wp2_with (first
              | ((with_reducible refine gate_callee (f := 101) rfl ?_)
                 refine goesL_ (some 35) rfl rfl Tryd.func101 (by kernel_rfl) rfl #[.pointer (some ⟨g, 0, none⟩), .int .u8 (rd bs (i : Int))] rfl (by (try simp only [List.map_toArray, List.map_cons, List.map_nil]); first | done | rfl) ?_
                 (with_reducible refine (byte_calls _ _ g s' v0 v1 (rd bs (i : Int)) HI2.out.2.2.1 HI2.out.2.2.2 (by have := HI.out.2.2.1; have := this.most; have := HI.out.2.2.1.word; have := HI.out.2.2.1.in_ EE.out.1; omega) (by have := HI.out.2.2.1; have := this.most; have := HI.out.2.2.1.field; have := HI.out.2.2.1.in_ EE.out.1; omega) HI.out.2.2.1.len (by have := HI.out.2.2.1; have := this.most; have := HI.out.2.2.1.in_ EE.out.1; omega) Y.out.rd).mono ?_)
                 rintro e w3 ⟨x3, y3, rfl, hd⟩
                 have Z := Aside0.mk (Y.out.trans hd)
                 have k5' := hd.rd.c5
                 have g5' := blk_frozen hd.rd.blk 5
                 clear hd
                 rw [HRB.out, errW_some]
                 refine ⟨_, rfl, ?_⟩))
            go_roundg k1
            case measure => omega
            case rel =>
              refine ⟨i + 1, {(s'.byte (rd bs (i : Int))).1 with err := (s'.byte (rd bs (i : Int))).2}, x3, y3, by push_cast; rfl, ⟨?_⟩, ⟨Z.out.put 5 (.iface 68 (.int .i64 x)) (by rw [HRB.out]; rfl) rfl rfl⟩⟩
              have h1 := HI.out
              have h2 := HI2.out
              refine ⟨by omega, by omega, byte_ok s' _ h1.2.2.1, ?_, ?_⟩
              · rw [h1.2.2.2.1, h2.2.1, feed_go s' EE.out]
              · rw [h1.2.2.2.2, h2.2.1, feed_go s' EE.out]
                show i + (_ + 1) = i + 1 + _
                omega
    · have hil : i = bs.length := by have := HI.out.2.1; omega
      have di : decide ((i : Int) < (bs.length : Int)) = false := decide_eq_false (by omega)
      have hdn : bs.drop i = [] := by rw [hil]; simp
      have E1 : (s.feed bs).1 = s' := by rw [HI.out.2.2.2.1, hdn]; rfl
      have E2 : (s.feed bs).2 = i := by rw [HI.out.2.2.2.2, hdn]; rfl
      have EE := Aside0.mk (And.intro E1 E2)
      clear E1 E2 hdn
      have HL := Aside0.mk hil
      clear hil
      cases he : s'.err with
      | some x =>
        rw [he, errW_some] at k5
        have HE := Aside0.mk he
        clear he
        go_wp2
        go_still (by kernel_rfl)
        go_wp2
        go_ret3
        refine ⟨v0, v1, ?_, ?_⟩
        · rw [EE.out.1, EE.out.2, HE.out]; rfl
        · rw [EE.out.1]; exact Y.out.drew
      | none =>
        rw [he, errW_none] at k5
        have HE := Aside0.mk he
        clear he
        go_wp2
        go_still (by kernel_rfl)
        go_wp2
        go_ret3
        refine ⟨v0, v1, ?_, ?_⟩
        · rw [EE.out.1, EE.out.2, HE.out]; rfl
        · rw [EE.out.1]; exact Y.out.drew
theorem feed_calls (w0 w : World) (g : Nat) (s : RdSt) (u0 u1 : Value) (A : Option Addr) (bs : List Int) (cb : Nat) (hC : (Kd.int .u8).C w0 A bs.length bs) (hn : bs.length ≤ 9000000000000000000) (hx : ∀ x, x ∈ bs → 0 ≤ x ∧ x ≤ 255)
    (hB : Below w0.heap.size w0 w) (ho : s.OK) (h : Rd w0.heap.size w g s u0 u1) :
    Calls Tryd.prog 89 #[.pointer (some ⟨g, 0, none⟩), .slice A bs.length cb] w fun e w' =>
      ∃ v0 v1, e = .returned (.tuple #[.int .i64 ((s.feed bs).2 : Int), .bool ((s.feed bs).1.err.isNone && (s.feed bs).1.at_ == 11), errW (s.feed bs).1.err]) ∧ St w0.heap.size w g u0 u1 w' (s.feed bs).1 v0 v1 :=
  feed_callsG w0.heap.size w g s u0 u1 A bs cb (fun W' v0 v1 hc => Kd.C_below hC (hB.trans hc.below)) hn hx ho h
end Go.Proofs.YtdmbgbennlnpcaaDoor.Hd
namespace Go.Proofs.YtdmbgbennlnpcaaDoor.Hd
open Go.RowKit Go.Proofs.YtdmbgbennlnpcaaDoorW.PrintWords Go.Proofs.YtdmbgbennlnpcaaDoorW.PrintLast Go.Proofs.YtdmbgbennlnpcaaDoorW.PrintMore
set_option linter.unusedVariables false
set_option linter.unusedSimpArgs false
set_option maxRecDepth 8000
def RdSt.all (s : RdSt) (bs : List Int) : Int × Option Int :=
  match (s.feed bs).1.err with
  | some x => (0, some x)
  | none => if (s.feed bs).1.at_ = 11 then ((s.feed bs).2, none) else (0, some 32)
theorem all_bad (w : World) (x : Int) (v : Value) :
    Calls Tryd.prog 71 #[.pointer none, errW (some x), v] w fun e w' => e = .returned (.tuple #[.int .i64 0, errW (some x)]) ∧ Below w.heap.size w w' := by
  rw [errW_some]
  go_enter Tryd.func71, Tryd.ntmps71
  go_wp2
  go_ret2
  exact ⟨rfl, Below.refl _ _⟩
theorem all_calls (w0 w : World) (g : Nat) (s : RdSt) (u0 u1 : Value) (A : Option Addr) (bs : List Int) (cb : Nat) (hC : (Kd.int .u8).C w0 A bs.length bs) (hn : bs.length ≤ 9000000000000000000) (hx : ∀ x, x ∈ bs → 0 ≤ x ∧ x ≤ 255)
    (hB : Below w0.heap.size w0 w) (ho : s.OK) (h : Rd w0.heap.size w g s u0 u1) :
    Calls Tryd.prog 71 #[.pointer (some ⟨g, 0, none⟩), errW none, .slice A bs.length cb] w fun e w' =>
      ∃ v0 v1, e = .returned (.tuple #[.int .i64 (s.all bs).1, errW (s.all bs).2]) ∧ St w0.heap.size w g u0 u1 w' (s.feed bs).1 v0 v1 := by
  have HC := Aside0.mk hC
  have HO := Aside0.mk ho
  have HX := Aside0.mk hx
  have HB := Aside0.mk hB
  have X := Aside0.mk h
  clear hC ho hx hB h
  rw [errW_none]
  unfold RdSt.all
  go_enter Tryd.func71, Tryd.ntmps71
  cases he : (s.feed bs).1.err with
  | some x =>
    have HE := Aside0.mk he
    clear he
    go_wp2_with (first
      | ((with_reducible refine gate_callee (f := 89) rfl ?_)
         refine goesL_ (some 16) rfl rfl Tryd.func89 (by kernel_rfl) rfl #[.pointer (some ⟨g, 0, none⟩), .slice A bs.length cb] rfl (by (try simp only [List.map_toArray, List.map_cons, List.map_nil]); first | done | rfl) ?_
         (with_reducible refine (feed_calls w0 w g s u0 u1 A bs cb HC.out hn HX.out HB.out HO.out X.out).mono ?_)
         rintro e w2 ⟨v0, v1, rfl, hd⟩
         have Z := Aside0.mk hd
         clear hd
         rw [HE.out, errW_some]
         refine ⟨_, rfl, ?_⟩))
    go_ret2
    first | exact ⟨v0, v1, rfl, Z.out⟩ | exact ⟨rfl, v0, v1, Z.out⟩
  | none =>
    have HE := Aside0.mk he
    clear he
    show Code.wp _ _ _ _ _
    by_cases ha : (s.feed bs).1.at_ = 11
    · have HA := Aside0.mk ha
      clear ha
      simp only [HA.out, if_true]
      go_wp2_with (first
        | ((with_reducible refine gate_callee (f := 89) rfl ?_)
           refine goesL_ (some 16) rfl rfl Tryd.func89 (by kernel_rfl) rfl #[.pointer (some ⟨g, 0, none⟩), .slice A bs.length cb] rfl (by (try simp only [List.map_toArray, List.map_cons, List.map_nil]); first | done | rfl) ?_
           (with_reducible refine (feed_calls w0 w g s u0 u1 A bs cb HC.out hn HX.out HB.out HO.out X.out).mono ?_)
           rintro e w2 ⟨v0, v1, rfl, hd⟩
           have Z := Aside0.mk hd
           clear hd
           rw [HE.out, errW_none, HA.out]
           refine ⟨_, rfl, ?_⟩))
      go_ret2
      first | exact ⟨v0, v1, rfl, Z.out⟩ | exact ⟨rfl, v0, v1, Z.out⟩
    · have HA := Aside0.mk (show ((s.feed bs).1.at_ == 11) = false by simpa using ha)
      simp only [if_neg ha]
      clear ha
      go_wp2_with (first
        | ((with_reducible refine gate_callee (f := 89) rfl ?_)
           refine goesL_ (some 16) rfl rfl Tryd.func89 (by kernel_rfl) rfl #[.pointer (some ⟨g, 0, none⟩), .slice A bs.length cb] rfl (by (try simp only [List.map_toArray, List.map_cons, List.map_nil]); first | done | rfl) ?_
           (with_reducible refine (feed_calls w0 w g s u0 u1 A bs cb HC.out hn HX.out HB.out HO.out X.out).mono ?_)
           rintro e w2 ⟨v0, v1, rfl, hd⟩
           have Z := Aside0.mk hd
           clear hd
           rw [HE.out, errW_none, HA.out]
           refine ⟨_, rfl, ?_⟩))
      go_ret2
      first | exact ⟨v0, v1, rfl, Z.out⟩ | exact ⟨rfl, v0, v1, Z.out⟩
end Go.Proofs.YtdmbgbennlnpcaaDoor.Hd
namespace Go.Proofs.YtdmbgbennlnpcaaDoor.Hd
open Go.RowKit Go.Proofs.YtdmbgbennlnpcaaDoorW.PrintWords Go.Proofs.YtdmbgbennlnpcaaDoorW.PrintLast Go.Proofs.YtdmbgbennlnpcaaDoorW.PrintMore
set_option linter.unusedVariables false
set_option linter.unusedSimpArgs false
set_option maxRecDepth 8000
theorem Rd.on {base : Nat} {W W1 : World} {g : Nat} {s : RdSt} {v0 v1 : Value} (h : Rd base W g s v0 v1) (hb : Below W.heap.size W W1) : Rd base W1 g s v0 v1 := (h.st.on hb).rd
set_option maxHeartbeats 1600000 in
theorem request_yes (base : Nat) (w : World) (g : Nat) (s : RdSt) (u0 u1 : Value) (h : Rd base w g s u0 u1) (hd : s.done true = true) (hfl : s.field.length ≤ 1000000) :
    Calls Tryd.prog 72 #[.pointer (some ⟨g, 0, none⟩)] w fun e w' => ∃ v, e = .returned (.tuple #[.agg #[.string s.qm, .string s.qt, .int .i64 s.qn, v], errW none]) ∧ Kd.R k50 50 w' w.heap.size (fun _ => True) v s.field ∧ Below w.heap.size w w' := by
  obtain ⟨A', cp', rfl, hcl', hcf⟩ := Kd.R_reads h.field
  have HCF := Aside0.mk hcf
  clear hcf
  have X := Aside0.mk h
  have HD := Aside0.mk hd
  clear h hd
  go_enter Tryd.func72, Tryd.ntmps72
  go_wp2_with (first
    | ((with_reducible refine gate_dst (N := 2) rfl ?_)
       refine box_event ?hg (N := 2) ?hd (cs := #[.string (⟨#[]⟩ : ByteArray), .string (⟨#[]⟩ : ByteArray), .int .i64 0, .slice none 0 0]) (t := 38) ?hr ?_
       case hd => rfl
       case hg => rfl
       case hr => first | (go_simp; done) | (go_simp; rfl)
       intro ga hga w1 hba hb1
       have X1 := Aside0.mk (X.out.on hb1)
       have HB1 := Aside0.mk hb1
       have BA1 := Aside0.mk hba
       have GA := Aside0.mk (show w.heap.size ≤ ga by omega)
       have GN := Aside0.mk (show g ≠ ga from fun e => by have := blk_lt X.out.blk; omega)
       clear hga hba hb1)
    | ((with_reducible refine gate_callee (f := 90) rfl ?_)
       refine goesL_ (some 6) rfl rfl Tryd.func90 (by kernel_rfl) rfl #[.pointer (some ⟨g, 0, none⟩), .bool true] rfl (by (try simp only [List.map_toArray, List.map_cons, List.map_nil]); first | done | rfl) ?_
       (with_reducible refine (done_calls base _ g s _ _ true X1.out).mono ?_)
       rintro e w2 ⟨rfl, hb2⟩
       have X2 := Aside0.mk (X1.out.on hb2)
       have BA2 := Aside0.mk (blk_below BA1.out hb2)
       have HB2 := Aside0.mk (below_step HB1.out hb2)
       have ka0 : w2.cell? ⟨ga, 0, none⟩ = some (.string (⟨#[]⟩ : ByteArray)) := (blk_cell BA2.out 0).trans rfl
       have ka1 : w2.cell? ⟨ga, 1, none⟩ = some (.string (⟨#[]⟩ : ByteArray)) := (blk_cell BA2.out 1).trans rfl
       have ka2 : w2.cell? ⟨ga, 2, none⟩ = some (.int .i64 0) := (blk_cell BA2.out 2).trans rfl
       have ka3 : w2.cell? ⟨ga, 3, none⟩ = some (.slice none 0 0) := (blk_cell BA2.out 3).trans rfl
       have fa0 := blk_frozen BA2.out 0
       have fa1 := blk_frozen BA2.out 1
       have fa2 := blk_frozen BA2.out 2
       have fa3 := blk_frozen BA2.out 3
       have kg6 : w2.cell? ⟨g, 6, none⟩ = some (.string s.qm) := (blk_cell X2.out.blk 6).trans rfl
       have kg7 : w2.cell? ⟨g, 7, none⟩ = some (.string s.qt) := (blk_cell X2.out.blk 7).trans rfl
       have kg8 : w2.cell? ⟨g, 8, none⟩ = some (.int .i64 s.qn) := (blk_cell X2.out.blk 8).trans rfl
       have kg9 : w2.cell? ⟨g, 9, none⟩ = some (.slice none 0 0) := (blk_cell X2.out.blk 9).trans rfl
       clear hb2
       rw [HD.out]
       refine ⟨_, rfl, ?_⟩)
    | ((with_reducible refine gate_dst (N := 4) rfl ?_)
       refine box_event ?hg (N := 4) ?hd (cs := #[.string (⟨#[]⟩ : ByteArray), .string (⟨#[]⟩ : ByteArray), .int .i64 0, .slice none 0 0]) (t := 38) ?hr ?_
       case hd => rfl
       case hg => rfl
       case hr => first | (go_simp; done) | (go_simp; rfl)
       intro gb hgb w3 hbb hb3
       have X3 := Aside0.mk (X2.out.on hb3)
       have BA3 := Aside0.mk (blk_below BA2.out hb3)
       have BB3 := Aside0.mk hbb
       have HB3 := Aside0.mk (below_step HB2.out hb3)
       have GB := Aside0.mk (show w.heap.size ≤ gb by have := HB2.out.size; omega)
       have n1 : (g = gb) = False := eq_false (fun e => by have := blk_lt X2.out.blk; omega)
       have n2 : (gb = g) = False := eq_false (fun e => by have := blk_lt X2.out.blk; omega)
       have n3 : (ga = gb) = False := eq_false (fun e => by have := blk_lt BA2.out; omega)
       have n4 : (gb = ga) = False := eq_false (fun e => by have := blk_lt BA2.out; omega)
       have kb0 : w3.cell? ⟨ga, 0, none⟩ = some (.string (⟨#[]⟩ : ByteArray)) := (blk_cell BA3.out 0).trans rfl
       have kb1 : w3.cell? ⟨ga, 1, none⟩ = some (.string (⟨#[]⟩ : ByteArray)) := (blk_cell BA3.out 1).trans rfl
       have kb2 : w3.cell? ⟨ga, 2, none⟩ = some (.int .i64 0) := (blk_cell BA3.out 2).trans rfl
       have kb3 : w3.cell? ⟨ga, 3, none⟩ = some (.slice none 0 0) := (blk_cell BA3.out 3).trans rfl
       have fb0 := blk_frozen BA3.out 0
       have fb1 := blk_frozen BA3.out 1
       have fb2 := blk_frozen BA3.out 2
       have fb3 := blk_frozen BA3.out 3
       have kc0 : w3.cell? ⟨gb, 0, none⟩ = some (.string (⟨#[]⟩ : ByteArray)) := (blk_cell BB3.out 0).trans rfl
       have kc1 : w3.cell? ⟨gb, 1, none⟩ = some (.string (⟨#[]⟩ : ByteArray)) := (blk_cell BB3.out 1).trans rfl
       have kc2 : w3.cell? ⟨gb, 2, none⟩ = some (.int .i64 0) := (blk_cell BB3.out 2).trans rfl
       have kc3 : w3.cell? ⟨gb, 3, none⟩ = some (.slice none 0 0) := (blk_cell BB3.out 3).trans rfl
       have fc0 := blk_frozen BB3.out 0
       have fc1 := blk_frozen BB3.out 1
       have fc2 := blk_frozen BB3.out 2
       have fc3 := blk_frozen BB3.out 3
       have kg15 : w3.cell? ⟨g, 15, none⟩ = some (.slice A' s.field.length cp') := X3.out.c15
       clear hgb hbb hb3)
    | ((with_reducible refine gate_builtin (b := .append) (xs := #[.const (.slice none 0 0), .tmp 17]) rfl ?_); at_builtin
       have HBW := Aside0.mk (below_set (below_set (below_set (below_set HB3.out GB.out (j := 0) (v := .string s.qm)) GB.out (j := 1) (v := .string s.qt)) GB.out (j := 2) (v := .int .i64 s.qn)) GB.out (j := 3) (v := .slice none 0 0))
       have BBW := Aside0.mk (blk_put (cs' := #[.string s.qm, .string s.qt, .int .i64 s.qn, .slice none 0 0]) (blk_put (blk_put (blk_put BB3.out 0 (.string s.qm) rfl) 1 (.string s.qt) rfl) 2 (.int .i64 s.qn) rfl) 3 (.slice none 0 0) rfl)
       have NN := Aside0.mk (show ga ≠ gb from fun e => by have := blk_lt BA2.out; rw [n3] at e; exact e)
       have BAW := Aside0.mk (blk_far (blk_far (blk_far (blk_far BA3.out (p := ⟨gb, 0, none⟩) NN.out (.string s.qm)) (p := ⟨gb, 1, none⟩) NN.out (.string s.qt)) (p := ⟨gb, 2, none⟩) NN.out (.int .i64 s.qn)) (p := ⟨gb, 3, none⟩) NN.out (.slice none 0 0))
       refine Kd.R_append_rows k50 (Rr := k50.K w) (w0 := w) w.heap.size rfl (.const (.slice none 0 0)) (.tmp 17) 22 50 (.agg #[(.string ⟨#[]⟩), (.string ⟨#[]⟩)]) 32 rfl Tryd.underlying22 info50 rfl (by decide) (by omega) (.slice none 0 0) [] s.field A' s.field.length cp' (fun _ => True) (fun _ => False) rfl rfl ?aO ?aR ?aK (fun _ h => h.elim) (fun _ _ => trivial) ?aB ?aS ?aL ?_
       case aO => exact Kd.R_nil _ _ _ _ _
       case aR => exact ReadsRow.imp_ HCF.out HBW.out (fun _ _ h => h)
       case aK =>
         intro x cs hk
         obtain rfl := k50_open hk
         exact k50_mkM _ _ _ x
       case aB => exact HBW.out
       case aS => exact below_size HBW.out
       case aL =>
         rw [List.length_nil]
         omega
       intro x1 w4 ho hb4 hg hat
       rw [List.nil_append] at ho
       obtain ⟨A5, c5, ex1, _, _⟩ := Kd.R_reads ho
       subst ex1
       have BB4 := Aside0.mk (blk_grown BBW.out hg (by simp [Value.ownBlock]))
       have BA4 := Aside0.mk (blk_grown BAW.out hg (by simp [Value.ownBlock]))
       have HO := Aside0.mk ho
       have HB4 := Aside0.mk hb4
       have kd0 : w4.cell? ⟨gb, 0, none⟩ = some (.string s.qm) := (blk_cell BB4.out 0).trans rfl
       have kd1 : w4.cell? ⟨gb, 1, none⟩ = some (.string s.qt) := (blk_cell BB4.out 1).trans rfl
       have kd2 : w4.cell? ⟨gb, 2, none⟩ = some (.int .i64 s.qn) := (blk_cell BB4.out 2).trans rfl
       have kd3 : w4.cell? ⟨gb, 3, none⟩ = some (.slice none 0 0) := (blk_cell BB4.out 3).trans rfl
       have fd0 := blk_frozen BB4.out 0
       have fd1 := blk_frozen BB4.out 1
       have fd2 := blk_frozen BB4.out 2
       have fd3 := blk_frozen BB4.out 3
       have ke0 : w4.cell? ⟨ga, 0, none⟩ = some (.string (⟨#[]⟩ : ByteArray)) := (blk_cell BA4.out 0).trans rfl
       have ke1 : w4.cell? ⟨ga, 1, none⟩ = some (.string (⟨#[]⟩ : ByteArray)) := (blk_cell BA4.out 1).trans rfl
       have ke2 : w4.cell? ⟨ga, 2, none⟩ = some (.int .i64 0) := (blk_cell BA4.out 2).trans rfl
       have ke3 : w4.cell? ⟨ga, 3, none⟩ = some (.slice none 0 0) := (blk_cell BA4.out 3).trans rfl
       have fe0 := blk_frozen BA4.out 0
       have fe1 := blk_frozen BA4.out 1
       have fe2 := blk_frozen BA4.out 2
       have fe3 := blk_frozen BA4.out 3
       clear ho hb4 hg hat))
  have BA5 := Aside0.mk (blk_far BA4.out (p := ⟨gb, 3, none⟩) NN.out (.slice A5 s.field.length c5))
  refine bodyPost_ret (results_ct rfl _ _ ga 38 #[.string s.qm, .string s.qt, .int .i64 s.qn, .slice A5 s.field.length c5] (0, 0) _ rfl (blk_put (blk_put (blk_put (blk_put BA5.out 0 _ rfl) 1 _ rfl) 2 _ rfl) 3 _ rfl) Tryd.underlying38 rfl (by kernel_rfl)) rfl ?_
  refine ⟨_, rfl, ?_, ?_⟩
  · have r0 := Kd.R_set HO.out BB4.out (by decide) 3 (.slice A5 s.field.length c5)
    have r1 := Kd.R_set r0 BA5.out (by decide) 0 (.string s.qm)
    have b1 := blk_set BA5.out 0 (.string s.qm)
    have r2 := Kd.R_set r1 b1 (by decide) 1 (.string s.qt)
    have b2 := blk_set b1 1 (.string s.qt)
    have r3 := Kd.R_set r2 b2 (by decide) 2 (.int .i64 s.qn)
    have b3 := blk_set b2 2 (.int .i64 s.qn)
    exact Kd.R_set r3 b3 (by decide) 3 _
  · exact below_set (below_set (below_set (below_set (below_set HB4.out GB.out) GA.out) GA.out) GA.out) GA.out
end Go.Proofs.YtdmbgbennlnpcaaDoor.Hd
namespace Go.Proofs.YtdmbgbennlnpcaaDoor.Hd
open Go.RowKit Go.Proofs.YtdmbgbennlnpcaaDoorW.PrintWords Go.Proofs.YtdmbgbennlnpcaaDoorW.PrintLast Go.Proofs.YtdmbgbennlnpcaaDoorW.PrintMore
set_option linter.unusedVariables false
set_option linter.unusedSimpArgs false
set_option maxRecDepth 8000
set_option maxHeartbeats 1600000 in
theorem response_yes (base : Nat) (w : World) (g : Nat) (s : RdSt) (u0 u1 : Value) (h : Rd base w g s u0 u1) (hd : s.done false = true) (hfl : s.field.length ≤ 1000000) :
    Calls Tryd.prog 74 #[.pointer (some ⟨g, 0, none⟩)] w fun e w' => ∃ v, e = .returned (.tuple #[.agg #[.int .i64 s.ps, .string s.pr, .int .i64 s.pn, v], errW none]) ∧ Kd.R k50 50 w' w.heap.size (fun _ => True) v s.field ∧ Below w.heap.size w w' := by
  obtain ⟨A', cp', rfl, hcl', hcf⟩ := Kd.R_reads h.field
  have HCF := Aside0.mk hcf
  clear hcf
  have X := Aside0.mk h
  have HD := Aside0.mk hd
  clear h hd
  go_enter Tryd.func74, Tryd.ntmps74
  go_wp2_with (first
    | ((with_reducible refine gate_dst (N := 2) rfl ?_)
       refine box_event ?hg (N := 2) ?hd (cs := #[.int .i64 0, .string (⟨#[]⟩ : ByteArray), .int .i64 0, .slice none 0 0]) (t := 24) ?hr ?_
       case hd => rfl
       case hg => rfl
       case hr => first | (go_simp; done) | (go_simp; rfl)
       intro ga hga w1 hba hb1
       have X1 := Aside0.mk (X.out.on hb1)
       have HB1 := Aside0.mk hb1
       have BA1 := Aside0.mk hba
       have GA := Aside0.mk (show w.heap.size ≤ ga by omega)
       have GN := Aside0.mk (show g ≠ ga from fun e => by have := blk_lt X.out.blk; omega)
       clear hga hba hb1)
    | ((with_reducible refine gate_callee (f := 90) rfl ?_)
       refine goesL_ (some 6) rfl rfl Tryd.func90 (by kernel_rfl) rfl #[.pointer (some ⟨g, 0, none⟩), .bool false] rfl (by (try simp only [List.map_toArray, List.map_cons, List.map_nil]); first | done | rfl) ?_
       (with_reducible refine (done_calls base _ g s _ _ false X1.out).mono ?_)
       rintro e w2 ⟨rfl, hb2⟩
       have X2 := Aside0.mk (X1.out.on hb2)
       have BA2 := Aside0.mk (blk_below BA1.out hb2)
       have HB2 := Aside0.mk (below_step HB1.out hb2)
       have ka0 : w2.cell? ⟨ga, 0, none⟩ = some (.int .i64 0) := (blk_cell BA2.out 0).trans rfl
       have ka1 : w2.cell? ⟨ga, 1, none⟩ = some (.string (⟨#[]⟩ : ByteArray)) := (blk_cell BA2.out 1).trans rfl
       have ka2 : w2.cell? ⟨ga, 2, none⟩ = some (.int .i64 0) := (blk_cell BA2.out 2).trans rfl
       have ka3 : w2.cell? ⟨ga, 3, none⟩ = some (.slice none 0 0) := (blk_cell BA2.out 3).trans rfl
       have fa0 := blk_frozen BA2.out 0
       have fa1 := blk_frozen BA2.out 1
       have fa2 := blk_frozen BA2.out 2
       have fa3 := blk_frozen BA2.out 3
       have kg10 : w2.cell? ⟨g, 10, none⟩ = some (.int .i64 s.ps) := (blk_cell X2.out.blk 10).trans rfl
       have kg11 : w2.cell? ⟨g, 11, none⟩ = some (.string s.pr) := (blk_cell X2.out.blk 11).trans rfl
       have kg12 : w2.cell? ⟨g, 12, none⟩ = some (.int .i64 s.pn) := (blk_cell X2.out.blk 12).trans rfl
       have kg13 : w2.cell? ⟨g, 13, none⟩ = some (.slice none 0 0) := (blk_cell X2.out.blk 13).trans rfl
       clear hb2
       rw [HD.out]
       refine ⟨_, rfl, ?_⟩)
    | ((with_reducible refine gate_dst (N := 4) rfl ?_)
       refine box_event ?hg (N := 4) ?hd (cs := #[.int .i64 0, .string (⟨#[]⟩ : ByteArray), .int .i64 0, .slice none 0 0]) (t := 24) ?hr ?_
       case hd => rfl
       case hg => rfl
       case hr => first | (go_simp; done) | (go_simp; rfl)
       intro gb hgb w3 hbb hb3
       have X3 := Aside0.mk (X2.out.on hb3)
       have BA3 := Aside0.mk (blk_below BA2.out hb3)
       have BB3 := Aside0.mk hbb
       have HB3 := Aside0.mk (below_step HB2.out hb3)
       have GB := Aside0.mk (show w.heap.size ≤ gb by have := HB2.out.size; omega)
       have n1 : (g = gb) = False := eq_false (fun e => by have := blk_lt X2.out.blk; omega)
       have n2 : (gb = g) = False := eq_false (fun e => by have := blk_lt X2.out.blk; omega)
       have n3 : (ga = gb) = False := eq_false (fun e => by have := blk_lt BA2.out; omega)
       have n4 : (gb = ga) = False := eq_false (fun e => by have := blk_lt BA2.out; omega)
       have kb0 : w3.cell? ⟨ga, 0, none⟩ = some (.int .i64 0) := (blk_cell BA3.out 0).trans rfl
       have kb1 : w3.cell? ⟨ga, 1, none⟩ = some (.string (⟨#[]⟩ : ByteArray)) := (blk_cell BA3.out 1).trans rfl
       have kb2 : w3.cell? ⟨ga, 2, none⟩ = some (.int .i64 0) := (blk_cell BA3.out 2).trans rfl
       have kb3 : w3.cell? ⟨ga, 3, none⟩ = some (.slice none 0 0) := (blk_cell BA3.out 3).trans rfl
       have fb0 := blk_frozen BA3.out 0
       have fb1 := blk_frozen BA3.out 1
       have fb2 := blk_frozen BA3.out 2
       have fb3 := blk_frozen BA3.out 3
       have kc0 : w3.cell? ⟨gb, 0, none⟩ = some (.int .i64 0) := (blk_cell BB3.out 0).trans rfl
       have kc1 : w3.cell? ⟨gb, 1, none⟩ = some (.string (⟨#[]⟩ : ByteArray)) := (blk_cell BB3.out 1).trans rfl
       have kc2 : w3.cell? ⟨gb, 2, none⟩ = some (.int .i64 0) := (blk_cell BB3.out 2).trans rfl
       have kc3 : w3.cell? ⟨gb, 3, none⟩ = some (.slice none 0 0) := (blk_cell BB3.out 3).trans rfl
       have fc0 := blk_frozen BB3.out 0
       have fc1 := blk_frozen BB3.out 1
       have fc2 := blk_frozen BB3.out 2
       have fc3 := blk_frozen BB3.out 3
       have kg15 : w3.cell? ⟨g, 15, none⟩ = some (.slice A' s.field.length cp') := X3.out.c15
       clear hgb hbb hb3)
    | ((with_reducible refine gate_builtin (b := .append) (xs := #[.const (.slice none 0 0), .tmp 17]) rfl ?_); at_builtin
       have HBW := Aside0.mk (below_set (below_set (below_set (below_set HB3.out GB.out (j := 0) (v := .int .i64 s.ps)) GB.out (j := 1) (v := .string s.pr)) GB.out (j := 2) (v := .int .i64 s.pn)) GB.out (j := 3) (v := .slice none 0 0))
       have BBW := Aside0.mk (blk_put (cs' := #[.int .i64 s.ps, .string s.pr, .int .i64 s.pn, .slice none 0 0]) (blk_put (blk_put (blk_put BB3.out 0 (.int .i64 s.ps) rfl) 1 (.string s.pr) rfl) 2 (.int .i64 s.pn) rfl) 3 (.slice none 0 0) rfl)
       have NN := Aside0.mk (show ga ≠ gb from fun e => by have := blk_lt BA2.out; rw [n3] at e; exact e)
       have BAW := Aside0.mk (blk_far (blk_far (blk_far (blk_far BA3.out (p := ⟨gb, 0, none⟩) NN.out (.int .i64 s.ps)) (p := ⟨gb, 1, none⟩) NN.out (.string s.pr)) (p := ⟨gb, 2, none⟩) NN.out (.int .i64 s.pn)) (p := ⟨gb, 3, none⟩) NN.out (.slice none 0 0))
       refine Kd.R_append_rows k50 (Rr := k50.K w) (w0 := w) w.heap.size rfl (.const (.slice none 0 0)) (.tmp 17) 22 50 (.agg #[(.string ⟨#[]⟩), (.string ⟨#[]⟩)]) 32 rfl Tryd.underlying22 info50 rfl (by decide) (by omega) (.slice none 0 0) [] s.field A' s.field.length cp' (fun _ => True) (fun _ => False) rfl rfl ?aO ?aR ?aK (fun _ h => h.elim) (fun _ _ => trivial) ?aB ?aS ?aL ?_
       case aO => exact Kd.R_nil _ _ _ _ _
       case aR => exact ReadsRow.imp_ HCF.out HBW.out (fun _ _ h => h)
       case aK =>
         intro x cs hk
         obtain rfl := k50_open hk
         exact k50_mkM _ _ _ x
       case aB => exact HBW.out
       case aS => exact below_size HBW.out
       case aL =>
         rw [List.length_nil]
         omega
       intro x1 w4 ho hb4 hg hat
       rw [List.nil_append] at ho
       obtain ⟨A5, c5, ex1, _, _⟩ := Kd.R_reads ho
       subst ex1
       have BB4 := Aside0.mk (blk_grown BBW.out hg (by simp [Value.ownBlock]))
       have BA4 := Aside0.mk (blk_grown BAW.out hg (by simp [Value.ownBlock]))
       have HO := Aside0.mk ho
       have HB4 := Aside0.mk hb4
       have kd0 : w4.cell? ⟨gb, 0, none⟩ = some (.int .i64 s.ps) := (blk_cell BB4.out 0).trans rfl
       have kd1 : w4.cell? ⟨gb, 1, none⟩ = some (.string s.pr) := (blk_cell BB4.out 1).trans rfl
       have kd2 : w4.cell? ⟨gb, 2, none⟩ = some (.int .i64 s.pn) := (blk_cell BB4.out 2).trans rfl
       have kd3 : w4.cell? ⟨gb, 3, none⟩ = some (.slice none 0 0) := (blk_cell BB4.out 3).trans rfl
       have fd0 := blk_frozen BB4.out 0
       have fd1 := blk_frozen BB4.out 1
       have fd2 := blk_frozen BB4.out 2
       have fd3 := blk_frozen BB4.out 3
       have ke0 : w4.cell? ⟨ga, 0, none⟩ = some (.int .i64 0) := (blk_cell BA4.out 0).trans rfl
       have ke1 : w4.cell? ⟨ga, 1, none⟩ = some (.string (⟨#[]⟩ : ByteArray)) := (blk_cell BA4.out 1).trans rfl
       have ke2 : w4.cell? ⟨ga, 2, none⟩ = some (.int .i64 0) := (blk_cell BA4.out 2).trans rfl
       have ke3 : w4.cell? ⟨ga, 3, none⟩ = some (.slice none 0 0) := (blk_cell BA4.out 3).trans rfl
       have fe0 := blk_frozen BA4.out 0
       have fe1 := blk_frozen BA4.out 1
       have fe2 := blk_frozen BA4.out 2
       have fe3 := blk_frozen BA4.out 3
       clear ho hb4 hg hat))
  have BA5 := Aside0.mk (blk_far BA4.out (p := ⟨gb, 3, none⟩) NN.out (.slice A5 s.field.length c5))
  refine bodyPost_ret (results_ct rfl _ _ ga 24 #[.int .i64 s.ps, .string s.pr, .int .i64 s.pn, .slice A5 s.field.length c5] (0, 0) _ rfl (blk_put (blk_put (blk_put (blk_put BA5.out 0 _ rfl) 1 _ rfl) 2 _ rfl) 3 _ rfl) Tryd.underlying24 rfl (by kernel_rfl)) rfl ?_
  refine ⟨_, rfl, ?_, ?_⟩
  · have r0 := Kd.R_set HO.out BB4.out (by decide) 3 (.slice A5 s.field.length c5)
    have r1 := Kd.R_set r0 BA5.out (by decide) 0 (.int .i64 s.ps)
    have b1 := blk_set BA5.out 0 (.int .i64 s.ps)
    have r2 := Kd.R_set r1 b1 (by decide) 1 (.string s.pr)
    have b2 := blk_set b1 1 (.string s.pr)
    have r3 := Kd.R_set r2 b2 (by decide) 2 (.int .i64 s.pn)
    have b3 := blk_set b2 2 (.int .i64 s.pn)
    exact Kd.R_set r3 b3 (by decide) 3 _
  · exact below_set (below_set (below_set (below_set (below_set HB4.out GB.out) GA.out) GA.out) GA.out) GA.out
end Go.Proofs.YtdmbgbennlnpcaaDoor.Hd
