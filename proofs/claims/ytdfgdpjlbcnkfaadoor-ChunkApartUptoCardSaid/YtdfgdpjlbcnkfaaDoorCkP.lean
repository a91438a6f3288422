/- The chunk reader on the runner: its functions, the law that feeds it, the plain part; for the inputs that each theorem names. -/
import Derived.Test.YtdfgdpjlbcnkfaaDoorCkR
import Derived.Test.YtdfgdpjlbcnkfaaDoorShelf
import Derived.Shelf.Strings.SlTrimAscii
namespace Go.Proofs.YtdfgdpjlbcnkfaaDoor.Q
open Go Go.Proofs.YtdfgdpjlbcnkfaaDoorAbs Go.Proofs Go.RowKit
set_option linter.unusedVariables false
set_option linter.unusedSimpArgs false
/-- Bytes out of cells. -/
def nums8 : List Value → Option (List Int)
  | [] => some []
  | .int .u8 n :: r => (nums8 r).map (n :: ·)
  | _ => none
theorem nums8_get : ∀ (cs : List Value) (xs : List Int), nums8 cs = some xs → xs.length = cs.length ∧ ∀ i, i < xs.length → cs[i]? = some (.int .u8 (xs.getD i 0))
  | [], xs, h => by cases h; exact ⟨rfl, fun i hi => by simp at hi⟩
  | c :: cs, xs, h => by
    unfold nums8 at h
    split at h
    · rename_i e; cases e
    · rename_i n r e
      cases e
      obtain ⟨ys, h1, rfl⟩ := Option.map_eq_some_iff.1 h
      obtain ⟨h2, h3⟩ := nums8_get _ ys h1
      refine ⟨by simp [h2], fun i hi => ?_⟩
      cases i with
      | zero => simp
      | succ i => simpa using h3 i (by simpa using hi)
    · cases h
def pIdxS (_ : Nat) (xs : Array Value) (_ : St) : Option Value := match xs with
  | ⟨[.string s, .int .u8 c]⟩ => some (.int .i64 (Lib.indexByte s.data.toList c.toNat.toUInt8))
  | _ => none
theorem still_idxS (k : Nat) : Still Tryd.prog 68 (pIdxS k) := ⟨fun xs S v h ρ w ys hrel hxs => by
  unfold pIdxS at h
  split at h
  case h_2 => cases h
  rename_i s c
  cases h
  obtain ⟨y, ys', hy, h4, h5⟩ := hxs.uncons
  obtain ⟨z, zs', rfl, h6, h7⟩ := h5.uncons
  obtain rfl := h7.of_nil
  obtain rfl := h4.leaf_eq rfl
  obtain rfl := h6.leaf_eq rfl
  obtain rfl : ys = #[.string s, .int .u8 c] := Array.ext' hy
  exact (Tryd.strings_IndexByte s c w).mono fun e w' ⟨h1, h2⟩ => ⟨_, h1, VR.scalar rfl, h2 ▸ Below.refl _ _⟩⟩
def pIdxB (_ : Nat) (xs : Array Value) (S : St) : Option Value := match xs with
  | ⟨[.slice none 0 0, .int .u8 c]⟩ => some (.int .i64 (-1))
  | ⟨[v, .int .u8 c]⟩ => (cellsAt 1 S v).bind fun cs => if cs = [] then none else (nums8 cs).map fun ns => .int .i64 (Lib.indexByte (Lib.bytesOf ns) c.toNat.toUInt8)
  | _ => none
theorem still_idxB (k : Nat) : Still Tryd.prog 60 (pIdxB k) := ⟨fun xs S v h ρ w ys hrel hxs => by
  unfold pIdxB at h
  split at h
  · rename_i c
    cases h
    obtain ⟨y, ys', hy, h4, h5⟩ := hxs.uncons
    obtain ⟨z, zs', rfl, h6, h7⟩ := h5.uncons
    obtain rfl := h7.of_nil
    obtain rfl := h4.leaf_eq rfl
    obtain rfl := h6.leaf_eq rfl
    obtain rfl : ys = #[.slice none 0 0, .int .u8 c] := Array.ext' hy
    exact (Tryd.bytes_IndexByte_nil c w).mono fun e w' ⟨h1, h2⟩ => ⟨_, h1, VR.scalar rfl, h2 ▸ Below.refl _ _⟩
  · rename_i x c _
    obtain ⟨cs, h1, h2⟩ := Option.bind_eq_some_iff.1 h
    split at h2
    · cases h2
    rename_i hne
    obtain ⟨ns, h3, rfl⟩ := Option.map_eq_some_iff.1 h2
    obtain ⟨g1, g2⟩ := nums8_get cs ns h3
    obtain ⟨y, ys', hy, h4, h5⟩ := hxs.uncons
    obtain ⟨z, zs', rfl, h6, h7⟩ := h5.uncons
    obtain rfl := h7.of_nil
    obtain rfl := h6.leaf_eq rfl
    obtain ⟨A, n, C, rfl, k1, k2, k3, _⟩ := cellsAt_sim hrel h4 h1
    obtain rfl : ys = #[.slice A n C, .int .u8 c] := Array.ext' hy
    have hn : n = ns.length := by omega
    subst hn
    have hpos : 0 < ns.length := by
      rcases Nat.eq_zero_or_pos ns.length with e | e
      · exact absurd (List.length_eq_zero_iff.1 (by omega)) hne
      · exact e
    obtain ⟨ad, rfl, _⟩ := k3 0 _ (g2 0 hpos)
    refine (Tryd.bytes_IndexByte_at ad ns.length C ns c w rfl fun i hi => ?_).mono fun e w' ⟨h1, h2⟩ => ⟨_, h1, VR.scalar rfl, h2 ▸ Below.refl _ _⟩
    obtain ⟨ad', e1, e2⟩ := k3 i _ (g2 i hi)
    cases e1
    exact e2
  · cases h⟩
def pIdx1 (_ : Nat) (xs : Array Value) (S : St) : Option Value := match xs with
  | ⟨[v, sep]⟩ => (cellsAt 1 S v).bind fun cs => (cellsAt 1 S sep).bind fun ds => match ds with
    | [.int .u8 c] => if cs = [] then none else (nums8 cs).map fun ns => .int .i64 (Lib.indexByte (Lib.bytesOf ns) c.toNat.toUInt8)
    | _ => none
  | _ => none
theorem still_idx1 (k : Nat) : Still Tryd.prog 88 (pIdx1 k) := ⟨fun xs S v h ρ w ys hrel hxs => by
  unfold pIdx1 at h
  split at h
  case h_2 => cases h
  rename_i x sep
  obtain ⟨cs, h1, h2⟩ := Option.bind_eq_some_iff.1 h
  obtain ⟨ds, h3, h4⟩ := Option.bind_eq_some_iff.1 h2
  split at h4
  case h_2 => cases h4
  rename_i c
  split at h4
  · cases h4
  rename_i hne
  obtain ⟨ns, h5, rfl⟩ := Option.map_eq_some_iff.1 h4
  obtain ⟨g1, g2⟩ := nums8_get cs ns h5
  obtain ⟨y, ys', hy, k4, k5⟩ := hxs.uncons
  obtain ⟨z, zs', rfl, k6, k7⟩ := k5.uncons
  obtain rfl := k7.of_nil
  obtain ⟨A, n, C, rfl, q1, q2, q3, _⟩ := cellsAt_sim hrel k4 h1
  obtain ⟨A2, n2, C2, rfl, r1, r2, r3, _⟩ := cellsAt_sim hrel k6 h3
  obtain rfl : ys = #[.slice A n C, .slice A2 n2 C2] := Array.ext' hy
  have hn : n = ns.length := by omega
  subst hn
  have hn2 : n2 = 1 := by simpa using r2.symm
  subst hn2
  have hpos : 0 < ns.length := by
    rcases Nat.eq_zero_or_pos ns.length with e | e
    · exact absurd (List.length_eq_zero_iff.1 (by omega)) hne
    · exact e
  obtain ⟨ad, rfl, _⟩ := q3 0 _ (g2 0 hpos)
  obtain ⟨ad2, rfl, hc2⟩ := r3 0 _ rfl
  have hsp : ad2.spot = none := by
    unfold World.cell? at hc2
    split at hc2
    · rename_i hh
      simp only [Addr.add] at hc2
      cases hs : ad2.spot with
      | none => rfl
      | some s => simp [hs] at hc2
    · cases hc2
  obtain ⟨b2, o2, s2⟩ := ad2
  simp only at hsp
  subst hsp
  have hc2' : w.cell? ⟨b2, o2, none⟩ = some (.int .u8 c) := by simpa [Addr.add] using hc2
  refine (Tryd.bytes_Index_one_at ad ns.length C b2 o2 C2 ns c w rfl (fun i hi => ?_) hc2').mono fun e w' ⟨h1, h2⟩ => ⟨_, h1, VR.scalar rfl, h2 ▸ Below.refl _ _⟩
  obtain ⟨ad', e1, e2⟩ := q3 i _ (g2 i hi)
  cases e1
  exact e2⟩
def pTrim (_ : Nat) (xs : Array Value) (_ : St) : Option Value := match xs with
  | ⟨[.string s, .string c]⟩ => if s.size ≤ 9223372036854775807 ∧ c = ⟨#[32, 9]⟩ then some (.string (trimB s)) else none
  | _ => none
theorem still_trim (k : Nat) : Still Tryd.prog 55 (pTrim k) := ⟨fun xs S v h ρ w ys hrel hxs => by
  unfold pTrim at h
  split at h
  case h_2 => cases h
  rename_i s c
  split at h
  case isFalse => cases h
  rename_i hc
  obtain ⟨hs, rfl⟩ := hc
  cases h
  obtain ⟨y, ys', hy, h4, h5⟩ := hxs.uncons
  obtain ⟨z, zs', rfl, h6, h7⟩ := h5.uncons
  obtain rfl := h7.of_nil
  obtain rfl := h4.leaf_eq rfl
  obtain rfl := h6.leaf_eq rfl
  obtain rfl : ys = #[.string s, .string ⟨#[32, 9]⟩] := Array.ext' hy
  refine (Any.strings_Trim_laid Tryd.lays160 (by kernel_rfl) s ⟨#[32, 9]⟩ w hs (by decide) (Go.Proofs.ascii_of_all (by decide))).mono ?_
  rintro e w' ⟨rfl, hb⟩
  exact ⟨_, rfl, VR.scalar rfl, hb⟩⟩
def primL : List (FuncId × (Nat → Array Value → St → Option Value)) := [(68, pIdxS), (60, pIdxB), (88, pIdx1), (55, pTrim)]
def prims0 : Prims := stills primL
theorem prims0_sim : PrimSim Tryd.prog prims0 := stills_sim fun x hx k => by
  simp only [primL, List.mem_cons, List.not_mem_nil, or_false] at hx
  rcases hx with rfl | rfl | rfl | rfl
  · exact still_idxS k
  · exact still_idxB k
  · exact still_idx1 k
  · exact still_trim k
end Go.Proofs.YtdfgdpjlbcnkfaaDoor.Q
