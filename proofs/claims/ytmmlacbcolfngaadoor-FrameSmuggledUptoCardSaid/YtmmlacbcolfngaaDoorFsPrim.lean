/- FrameSmuggled: the law's walk on the runner, and its plain part; for every input of bulk at most 1048576. -/
import Derived.Test.YtmmlacbcolfngaaDoorAbsB
import Derived.Test.YtmmlacbcolfngaaDoorQFrame2
import Derived.Test.YtmmlacbcolfngaaDoorQTurnstilelaw11
import Derived.Test.YtmmlacbcolfngaaDoorQTurnstilelaw11stub
namespace Go.Proofs.YtmmlacbcolfngaaDoor.Q
open Go.Proofs.YtmmlacbcolfngaaDoorAbs Go.RowKit Go.Proofs.YtmmlacbcolfngaaDoorW.PrintWords Go.Proofs.YtmmlacbcolfngaaDoorW.PrintLast Go.Proofs.YtmmlacbcolfngaaDoorW.PrintMore
set_option linter.unusedVariables false
set_option linter.unusedSimpArgs false
theorem nglob : Tryd.prog.globals.size = 4 := by kernel_rfl
def geV : Value := .iface 135 (.agg #[.pointer (some ⟨4, 31, some 0⟩)])
def isGE (S : St) : Bool := match S.get 0 with
  | some ⟨.iface 135 (.agg ⟨[.pointer (some ⟨4, 31, some 0⟩)]⟩) :: _, _, _, _⟩ => true
  | _ => false
def isGM (S : St) : Bool := match S.get 1 with
  | some ⟨.int .i64 _ :: _, _, _, _⟩ => true
  | _ => false
theorem rel_GE {ρ : Ren} {S : St} {w : World} (h : Rel Tryd.prog ρ S w) (hg : isGE S = true) : GlobE w := by
  unfold isGE at hg
  split at hg
  case h_2 => cases hg
  rename_i r _ _ _ hb
  obtain ⟨u, h1, h2⟩ := rel_glob h (g := 0) (Nat.zero_le _) hb rfl
  obtain ⟨u1, rfl, i2⟩ := h2.iface_inv
  obtain ⟨ys, rfl, i3⟩ := i2.agg_inv
  obtain ⟨y, ys', hy, i4, h3⟩ := i3.uncons
  obtain rfl := h3.of_nil
  obtain ⟨L, loc, A, h4, h5, h6, h7, rfl⟩ := i4.ptr_inv
  cases h4
  have h8 := h.glob 4 (by rw [nglob]; exact Nat.le_refl _)
  have h9 := h8.symm.trans h5
  cases h9
  have h8' : (A : Int) = 31 := by simpa using h7
  have : A = 31 := by omega
  subst this
  have : ys = #[.pointer (some ⟨4, 31, none⟩)] := Array.ext' hy
  subst this
  exact h1
theorem rel_GM {ρ : Ren} {S : St} {w : World} (h : Rel Tryd.prog ρ S w) (hg : isGM S = true) : GlobM w := by
  unfold isGM at hg
  split at hg
  case h_2 => cases hg
  rename_i m r _ _ _ hb
  obtain ⟨u, h1, h2⟩ := rel_glob h (g := 1) (by rw [nglob]; decide) hb rfl
  obtain rfl := h2.leaf_eq rfl
  exact ⟨m, h1⟩
def errV : Value → Option (Option Int)
  | .nilIface => some none
  | .iface 98 (.int .i64 c) => some (some c)
  | _ => none
theorem errV_eq {v : Value} {r : Option Int} (h : errV v = some r) : v = errW r := by
  unfold errV at h
  split at h <;> first | (cases h; rfl) | cases h
theorem errV_errW (r : Option Int) : errV (errW r) = some r := by cases r <;> rfl
theorem errW_leaf (r : Option Int) : leaf (errW r) = true := by cases r <;> rfl
/-- Fields out of cells. -/
def dec67 : List Value → Option (List S67)
  | [] => some []
  | .string a :: .string b :: r => (dec67 r).map (⟨a, b⟩ :: ·)
  | _ => none
def enc67 (x : S67) : List Value := [.string x.f0, .string x.f1]
theorem dec67_enc : ∀ l : List S67, dec67 (l.flatMap enc67) = some l
  | [] => rfl
  | x :: l => by
    rw [List.flatMap_cons]
    show (dec67 (l.flatMap enc67)).map _ = _
    rw [dec67_enc l]
    rfl
theorem dec67_eq : ∀ (cs : List Value) (l : List S67), dec67 cs = some l → cs = l.flatMap enc67
  | [], l, h => by cases h; rfl
  | [x], l, h => by
    unfold dec67 at h
    split at h <;> simp_all
  | x :: y :: r, l, h => by
    unfold dec67 at h
    split at h
    · rename_i hh; cases hh
    · rename_i a b r' e
      cases e
      obtain ⟨l', h1, rfl⟩ := Option.map_eq_some_iff.1 h
      rw [dec67_eq r l' h1]
      rfl
    · cases h
theorem enc67_len : ∀ l : List S67, (l.flatMap enc67).length = l.length * 2
  | [] => rfl
  | x :: l => by rw [List.flatMap_cons, List.length_append, enc67_len l]; simp [enc67]; omega
theorem enc67_get : ∀ (l : List S67) (j : Nat) (p : S67), l[j]? = some p → (l.flatMap enc67)[j * 2]? = some (.string p.f0) ∧ (l.flatMap enc67)[j * 2 + 1]? = some (.string p.f1)
  | [], j, p, h => by simp at h
  | x :: l, 0, p, h => by
    simp at h; subst h
    exact ⟨rfl, rfl⟩
  | x :: l, j + 1, p, h => by
    have := enc67_get l j p (by simpa using h)
    rw [List.flatMap_cons, show (j + 1) * 2 = j * 2 + 1 + 1 by omega]
    exact this
def row67 (S : St) (v : Value) : Option (List S67) := (cellsAt 2 S v).bind dec67
theorem row67_sim {ρ : Ren} {S : St} {w : World} (h : Rel Tryd.prog ρ S w) {v v' : Value} {l : List S67} (hv : VR ρ v v') (hr : row67 S v = some l) (hl : l.length ≤ 9223372036854775807) :
    ∃ A C, v' = .slice A l.length C ∧ l.length ≤ C ∧ Kd.C k67 w A l.length l := by
  obtain ⟨cs, h1, h2⟩ := Option.bind_eq_some_iff.1 hr
  obtain ⟨A, n, C, rfl, k1, k2, k3, _⟩ := cellsAt_sim h hv h1
  have e := dec67_eq cs l h2
  have hn : n = l.length := by rw [e, enc67_len] at k2; omega
  subst hn
  refine ⟨A, C, rfl, k1, rfl, hl, fun hpos => ?_⟩
  obtain ⟨p0, hp0⟩ : ∃ p, l[0]? = some p := ⟨l[0], List.getElem?_eq_getElem hpos⟩
  obtain ⟨ad, rfl, _⟩ := k3 0 _ (by rw [e]; simpa using (enc67_get l 0 p0 hp0).1)
  refine ⟨ad, rfl, fun j p hj => ⟨_, rfl, k67_mk w p, fun i u hi => ?_⟩⟩
  obtain ⟨g1, g2⟩ := enc67_get l j p hj
  match i, hi with
  | 0, hi =>
    cases hi
    obtain ⟨ad', e1, e2⟩ := k3 _ _ (by rw [e]; exact g1)
    cases e1
    exact e2
  | 1, hi =>
    cases hi
    obtain ⟨ad', e1, e2⟩ := k3 _ _ (by rw [e]; exact g2)
    cases e1
    exact e2
/-! ### The functions that are taken by their contracts -/
def pNum (_ : Nat) (xs : Array Value) (S : St) : Option Value := match xs with
  | ⟨[v]⟩ => if isGE S = true then (errV v).bind fun r => (turnstilelaw11_num.f r).map (.int .i64) else none
  | _ => none
theorem still_num (k : Nat) : Still Tryd.prog 30 (pNum k) := ⟨fun xs S v h ρ w ys hrel hxs => by
  unfold pNum at h
  split at h
  case h_2 => cases h
  rename_i u
  split at h
  case isFalse => cases h
  rename_i hg
  obtain ⟨r, h1, h2⟩ := Option.bind_eq_some_iff.1 h
  obtain ⟨n, h3, rfl⟩ := Option.map_eq_some_iff.1 h2
  obtain rfl := errV_eq h1
  obtain ⟨y, ys', hy, h4, h5⟩ := hxs.uncons
  obtain rfl := h5.of_nil
  obtain rfl := h4.leaf_eq (errW_leaf r)
  obtain rfl : ys = #[errW r] := Array.ext' hy
  exact (turnstilelaw11_num.calls r n w (rel_GE hrel hg) h3).mono fun e w' ⟨h1, h2⟩ => ⟨_, h1, VR.scalar rfl, h2⟩⟩
def pSure (k : Nat) (xs : Array Value) (S : St) : Option Value := match xs with
  | ⟨[]⟩ => if isGM S = true then (turnstilelaw11_sure.f k).map .bool else none
  | _ => none
theorem still_sure (k : Nat) : Still Tryd.prog 20 (pSure k) := ⟨fun xs S v h ρ w ys hrel hxs => by
  unfold pSure at h
  split at h
  case h_2 => cases h
  split at h
  case isFalse => cases h
  rename_i hg
  obtain ⟨n, h3, rfl⟩ := Option.map_eq_some_iff.1 h
  obtain rfl : ys = #[] := Array.ext' hxs.of_nil
  exact (turnstilelaw11_sure.calls k n w (rel_GM hrel hg) h3).mono fun e w' ⟨h1, h2⟩ => ⟨_, h1, VR.scalar rfl, h2⟩⟩
def pRequest (k : Nat) (xs : Array Value) (S : St) : Option Value := match xs with
  | ⟨[.agg ⟨[.string a, .string b, .int .i64 m, sl]⟩]⟩ => if isGM S = true then (row67 S sl).bind fun l => if l.length ≤ 9223372036854775807 then (frame_Request.f k a b m l).map fun r => .tuple #[.agg #[.int .i64 r.1, .int .i64 r.2.1], errW r.2.2] else none else none
  | _ => none
theorem still_request (k : Nat) : Still Tryd.prog 22 (pRequest k) := ⟨fun xs S v h ρ w ys hrel hxs => by
  unfold pRequest at h
  split at h
  case h_2 => cases h
  rename_i a b m sl
  split at h
  case isFalse => cases h
  rename_i hg
  obtain ⟨l, h1, h2⟩ := Option.bind_eq_some_iff.1 h
  split at h2
  case isFalse => cases h2
  rename_i hl
  obtain ⟨⟨r1, r2, r3⟩, h3, rfl⟩ := Option.map_eq_some_iff.1 h2
  obtain ⟨y, ys', hy, h4, h5⟩ := hxs.uncons
  obtain rfl := h5.of_nil
  obtain ⟨zs, rfl, h6⟩ := h4.agg_inv
  obtain ⟨z0, zs0, hz0, g0, h6⟩ := h6.uncons
  obtain ⟨z1, zs1, rfl, g1, h6⟩ := h6.uncons
  obtain ⟨z2, zs2, rfl, g2, h6⟩ := h6.uncons
  obtain ⟨z3, zs3, rfl, g3, h6⟩ := h6.uncons
  obtain rfl := h6.of_nil
  obtain rfl := g0.leaf_eq rfl
  obtain rfl := g1.leaf_eq rfl
  obtain rfl := g2.leaf_eq rfl
  obtain ⟨A, C, rfl, k1, k2⟩ := row67_sim hrel g3 h1 hl
  obtain rfl : zs = #[.string a, .string b, .int .i64 m, .slice A l.length C] := Array.ext' hz0
  obtain rfl : ys = #[.agg #[.string a, .string b, .int .i64 m, .slice A l.length C]] := Array.ext' hy
  refine (frame_Request.calls k a b m A C l r1 r2 r3 w k2 k1 (rel_GM hrel hg) h3).mono fun e w' ⟨h1, h2⟩ => ⟨_, h1, ?_, h2⟩
  refine VR.tuple' (VRL.cons (VR.scalar (by simp [scalar, leaf])) (VRL.cons (VR.scalar ?_) (VRL.nil _)))
  cases r3 <;> rfl⟩
def prims : Prims := stills [(30, pNum), (20, pSure), (22, pRequest)]
theorem prims_sim : PrimSim Tryd.prog prims := stills_sim fun x hx k => by
  simp only [List.mem_cons, List.not_mem_nil, or_false] at hx
  rcases hx with rfl | rfl | rfl
  · exact still_num k
  · exact still_sure k
  · exact still_request k
end Go.Proofs.YtmmlacbcolfngaaDoor.Q
