/- What the law WriteHeads needs, part 1: the runner over a plain memory, words, the functions that it reaches, each by its own contract; for the inputs that each theorem names. -/
import Derived.Orders
import Derived.Tactics
import Derived.Deep.AppendSrc
import Derived.Deep.Upon
import Derived.Laws.BytesString
import Derived.Laws.Slices
import Derived.Laws.BytesArg
import Derived.Laws.AppendOwn
import Derived.Laws.Runes
import Derived.Laws.Build
namespace Go.Proofs.YtdmbgbennlnpcaaDoorAbs
set_option linter.unusedVariables false
def UNK : Nat := 4611686018427387904
def leaf : Value → Bool
  | .bool _ => true
  | .int _ _ => true
  | .float _ _ => true
  | .complex _ _ _ => true
  | .string _ => true
  | .pointer none => true
  | .slice none 0 0 => true
  | .map none => true
  | .chan none => true
  | .nilFunc => true
  | .nilIface => true
  | .func _ first captured => first.isEmpty && captured.isEmpty
  | .iface _ v => leaf v
  | _ => false
def scalar : Value → Bool
  | .agg cs => cs.all leaf
  | .tuple cs => cs.all leaf
  | v => leaf v
structure Loc where
  B : Nat
  base : Int
  lo : Nat
  size : Nat
  esz : Nat
  own : Bool
abbrev Ren := Nat → Nat → Option Loc
def Ren.le (ρ ρ' : Ren) : Prop := ∀ b L loc, ρ b L = some loc → ρ' b L = some loc
def Ren.add (ρ : Ren) (b L : Nat) (loc : Loc) : Ren := fun b' L' => if b' = b ∧ L' = L then some loc else ρ b' L'
def Zc (ρ : Ren) (b L c C : Nat) : Prop := (C = 0 ∧ (UNK ≤ c ∨ c = 0)) ∨ (UNK ≤ c ∧ ∃ loc, ρ b L = some loc ∧ loc.own = false)
inductive VR (ρ : Ren) : Value → Value → Prop
  | leaf (v : Value) (h : leaf v = true) : VR ρ v v
  | ptr (b o L A : Nat) (loc : Loc) (h : ρ b L = some loc) (hlo : loc.lo ≤ o) (hA : (A : Int) = loc.base + o) :
      VR ρ (.pointer (some ⟨b, o, some L⟩)) (.pointer (some ⟨loc.B, A, none⟩))
  | sl (b o L A n c C : Nat) (loc : Loc) (h : ρ b L = some loc) (hlo : loc.lo ≤ o) (hA : (A : Int) = loc.base + o)
      (hc : UNK ≤ c ∨ C = c) (hn : n ≤ C) (hs : loc.own = true → UNK ≤ c → A + C * (c - UNK) ≤ loc.size) :
      VR ρ (.slice (some ⟨b, o, some L⟩) n c) (.slice (some ⟨loc.B, A, none⟩) n C)
  | sl0 (b o L c : Nat) (A : Option Addr) (C : Nat) (hc : Zc ρ b L c C) :
      VR ρ (.slice (some ⟨b, o, some L⟩) 0 c) (.slice A 0 C)
  | func (fn : Fn) (f1 f2 c1 c2 : Array Value) (hf : f1.size = f2.size) (hf' : ∀ (i : Nat) (v v' : Value), f1[i]? = some v → f2[i]? = some v' → VR ρ v v')
      (hc : c1.size = c2.size) (hc' : ∀ (i : Nat) (v v' : Value), c1[i]? = some v → c2[i]? = some v' → VR ρ v v') :
      VR ρ (.func fn f1 c1) (.func fn f2 c2)
  | iface (t : TypeId) (v v' : Value) (h : VR ρ v v') : VR ρ (.iface t v) (.iface t v')
  | agg (xs ys : Array Value) (hs : xs.size = ys.size) (h : ∀ (i : Nat) (v v' : Value), xs[i]? = some v → ys[i]? = some v' → VR ρ v v') : VR ρ (.agg xs) (.agg ys)
  | tuple (xs ys : Array Value) (hs : xs.size = ys.size) (h : ∀ (i : Nat) (v v' : Value), xs[i]? = some v → ys[i]? = some v' → VR ρ v v') : VR ρ (.tuple xs) (.tuple ys)
theorem VR.mono {ρ ρ' : Ren} (hρ : ρ.le ρ') {v v' : Value} (h : VR ρ v v') : VR ρ' v v' := by
  induction h with
  | leaf v h => exact .leaf v h
  | ptr b o L A loc h hlo hA => exact .ptr b o L A loc (hρ _ _ _ h) hlo hA
  | sl b o L A n c C loc h hlo hA hc hn hs => exact .sl b o L A n c C loc (hρ _ _ _ h) hlo hA hc hn hs
  | sl0 b o L c A C hc => exact .sl0 b o L c A C (hc.imp_right fun ⟨h1, loc, h2, h3⟩ => ⟨h1, loc, hρ _ _ _ h2, h3⟩)
  | func fn f1 f2 c1 c2 hf hf' hc hc' ih1 ih2 => exact .func fn f1 f2 c1 c2 hf ih1 hc ih2
  | iface t v v' h ih => exact .iface t v v' ih
  | agg xs ys hs h ih => exact .agg xs ys hs ih
  | tuple xs ys hs h ih => exact .tuple xs ys hs ih
def VRL (ρ : Ren) (xs ys : List Value) : Prop := xs.length = ys.length ∧ ∀ (i : Nat) (v v' : Value), xs[i]? = some v → ys[i]? = some v' → VR ρ v v'
theorem VRL.mono {ρ ρ' : Ren} (hρ : ρ.le ρ') {xs ys : List Value} (h : VRL ρ xs ys) : VRL ρ' xs ys := ⟨h.1, fun i v v' a b => (h.2 i v v' a b).mono hρ⟩
theorem VRL.nil (ρ : Ren) : VRL ρ [] [] := ⟨rfl, fun i v v' h => by simp at h⟩
theorem VRL.cons {ρ : Ren} {x y : Value} {xs ys : List Value} (h : VR ρ x y) (hs : VRL ρ xs ys) : VRL ρ (x :: xs) (y :: ys) := by
  refine ⟨by simp [hs.1], fun i v v' a b => ?_⟩
  cases i with
  | zero => simp at a b; subst a; subst b; exact h
  | succ i => simp at a b; exact hs.2 i v v' a b
theorem VRL.uncons {ρ : Ren} {x : Value} {xs ys : List Value} (h : VRL ρ (x :: xs) ys) : ∃ y ys', ys = y :: ys' ∧ VR ρ x y ∧ VRL ρ xs ys' := by
  cases ys with
  | nil => have := h.1; simp at this
  | cons y ys' => exact ⟨y, ys', rfl, h.2 0 x y rfl rfl, by have := h.1; simpa using this, fun i v v' a b => h.2 (i + 1) v v' (by simpa using a) (by simpa using b)⟩
theorem VRL.of_nil {ρ : Ren} {ys : List Value} (h : VRL ρ [] ys) : ys = [] := by
  have := h.1
  cases ys with
  | nil => rfl
  | cons y ys => simp at this
theorem VRL.append {ρ : Ren} {xs ys us vs : List Value} (h : VRL ρ xs ys) (k : VRL ρ us vs) : VRL ρ (xs ++ us) (ys ++ vs) := by
  refine ⟨by simp [h.1, k.1], fun i v v' a b => ?_⟩
  by_cases hi : i < xs.length
  · rw [List.getElem?_append_left hi] at a
    rw [List.getElem?_append_left (h.1 ▸ hi)] at b
    exact h.2 i v v' a b
  · rw [List.getElem?_append_right (by omega)] at a
    rw [List.getElem?_append_right (by have := h.1; omega), ← h.1] at b
    exact k.2 _ v v' a b
theorem VRL.take {ρ : Ren} {xs ys : List Value} (h : VRL ρ xs ys) (n : Nat) : VRL ρ (xs.take n) (ys.take n) := by
  refine ⟨by simp [h.1], fun i v v' a b => ?_⟩
  rw [List.getElem?_take] at a b
  split at a
  · rw [if_pos (by assumption)] at b; exact h.2 i v v' a b
  · cases a
theorem VRL.drop {ρ : Ren} {xs ys : List Value} (h : VRL ρ xs ys) (n : Nat) : VRL ρ (xs.drop n) (ys.drop n) := by
  refine ⟨by simp [h.1], fun i v v' a b => ?_⟩
  rw [List.getElem?_drop] at a b
  exact h.2 _ v v' a b
theorem VRL.set {ρ : Ren} {xs ys : List Value} (h : VRL ρ xs ys) (n : Nat) {x y : Value} (k : VR ρ x y) : VRL ρ (xs.set n x) (ys.set n y) := by
  refine ⟨by simp [h.1], fun i v v' a b => ?_⟩
  rw [List.getElem?_set] at a b
  by_cases hi : n = i
  · subst hi
    rw [if_pos rfl] at a b
    split at a
    · rw [if_pos (by have := h.1; omega)] at b
      cases a; cases b; exact k
    · cases a
  · rw [if_neg hi] at a b; exact h.2 i v v' a b
theorem VRL.get {ρ : Ren} {xs ys : List Value} (h : VRL ρ xs ys) {i : Nat} {v : Value} (a : xs[i]? = some v) : ∃ v', ys[i]? = some v' ∧ VR ρ v v' := by
  have hi : i < xs.length := (List.getElem?_eq_some_iff.1 a).1
  have hj : i < ys.length := h.1 ▸ hi
  exact ⟨ys[i], List.getElem?_eq_getElem hj, h.2 i _ _ a (List.getElem?_eq_getElem hj)⟩
theorem VRL.refl {ρ : Ren} {xs : List Value} (h : ∀ v, v ∈ xs → VR ρ v v) : VRL ρ xs xs :=
  ⟨rfl, fun i v v' a b => by rw [a] at b; cases b; exact h v (List.mem_of_getElem? a)⟩
theorem VRL.replicate {ρ : Ren} (n : Nat) {v v' : Value} (h : VR ρ v v') : VRL ρ (List.replicate n v) (List.replicate n v') := by
  refine ⟨by simp, fun i x y a b => ?_⟩
  rw [List.getElem?_replicate] at a b
  split at a
  · rw [if_pos (by assumption)] at b; cases a; cases b; exact h
  · cases a
theorem vrl_arr {ρ : Ren} {xs ys : Array Value} : VRL ρ xs.toList ys.toList ↔ xs.size = ys.size ∧ ∀ (i : Nat) (v v' : Value), xs[i]? = some v → ys[i]? = some v' → VR ρ v v' := by
  simp [VRL]
theorem VR.agg' {ρ : Ren} {xs ys : Array Value} (h : VRL ρ xs.toList ys.toList) : VR ρ (.agg xs) (.agg ys) := .agg xs ys (vrl_arr.1 h).1 (vrl_arr.1 h).2
theorem VR.tuple' {ρ : Ren} {xs ys : Array Value} (h : VRL ρ xs.toList ys.toList) : VR ρ (.tuple xs) (.tuple ys) := .tuple xs ys (vrl_arr.1 h).1 (vrl_arr.1 h).2
theorem vr_undef (ρ : Ren) : VR ρ undef undef := VR.tuple' (VRL.nil ρ)
theorem leaf_cells {ρ : Ren} {cs : Array Value} (h : cs.all Go.Proofs.YtdmbgbennlnpcaaDoorAbs.leaf = true) : VRL ρ cs.toList cs.toList :=
  VRL.refl fun v hv => .leaf v (by rw [Array.all_eq_true_iff_forall_mem] at h; exact h v (by simpa using hv))
theorem VR.scalar {ρ : Ren} {v : Value} (h : scalar v = true) : VR ρ v v := by
  cases v with
  | agg cs => exact VR.agg' (leaf_cells h)
  | tuple cs => exact VR.tuple' (leaf_cells h)
  | _ => exact .leaf _ h
theorem VR.leaf_eq {ρ : Ren} {v v' : Value} (k : VR ρ v v') (h : Go.Proofs.YtdmbgbennlnpcaaDoorAbs.leaf v = true) : v' = v := by
  induction k with
  | leaf => rfl
  | ptr => simp [Go.Proofs.YtdmbgbennlnpcaaDoorAbs.leaf] at h
  | sl => simp [Go.Proofs.YtdmbgbennlnpcaaDoorAbs.leaf] at h
  | sl0 => simp [Go.Proofs.YtdmbgbennlnpcaaDoorAbs.leaf] at h
  | func fn f1 f2 c1 c2 hf hf' hc hc' =>
    simp only [Go.Proofs.YtdmbgbennlnpcaaDoorAbs.leaf, Bool.and_eq_true, Array.isEmpty_iff] at h
    obtain ⟨rfl, rfl⟩ := h
    have e1 : f2 = #[] := by simpa using hf.symm
    have e2 : c2 = #[] := by simpa using hc.symm
    rw [e1, e2]
  | iface t v v' h' ih => rw [ih h]
  | agg => simp [Go.Proofs.YtdmbgbennlnpcaaDoorAbs.leaf] at h
  | tuple => simp [Go.Proofs.YtdmbgbennlnpcaaDoorAbs.leaf] at h
theorem arr_leaf_eq {ρ : Ren} {xs ys : Array Value} (hs : xs.size = ys.size) (h : ∀ (i : Nat) (v v' : Value), xs[i]? = some v → ys[i]? = some v' → VR ρ v v') (hl : xs.all Go.Proofs.YtdmbgbennlnpcaaDoorAbs.leaf = true) : ys = xs := by
  refine Array.ext hs.symm fun i h1 h2 => ?_
  have := h i _ _ (Array.getElem?_eq_getElem h2) (Array.getElem?_eq_getElem h1)
  exact this.leaf_eq (by rw [Array.all_eq_true_iff_forall_mem] at hl; exact hl _ (Array.getElem_mem h2))
theorem VR.scalar_eq {ρ : Ren} {v v' : Value} (k : VR ρ v v') (h : Go.Proofs.YtdmbgbennlnpcaaDoorAbs.scalar v = true) : v' = v := by
  cases k with
  | agg xs ys hs hh => rw [arr_leaf_eq hs hh h]
  | tuple xs ys hs hh => rw [arr_leaf_eq hs hh h]
  | leaf => rfl
  | ptr => simp [Go.Proofs.YtdmbgbennlnpcaaDoorAbs.scalar, Go.Proofs.YtdmbgbennlnpcaaDoorAbs.leaf] at h
  | sl => simp [Go.Proofs.YtdmbgbennlnpcaaDoorAbs.scalar, Go.Proofs.YtdmbgbennlnpcaaDoorAbs.leaf] at h
  | sl0 => simp [Go.Proofs.YtdmbgbennlnpcaaDoorAbs.scalar, Go.Proofs.YtdmbgbennlnpcaaDoorAbs.leaf] at h
  | func fn f1 f2 c1 c2 hf hf' hc hc' => exact (VR.func fn f1 f2 c1 c2 hf hf' hc hc').leaf_eq h
  | iface t v v' h' => exact (VR.iface t v v' h').leaf_eq h
theorem VR.agg_inv {ρ : Ren} {xs : Array Value} {v' : Value} (k : VR ρ (.agg xs) v') : ∃ ys, v' = .agg ys ∧ VRL ρ xs.toList ys.toList := by
  cases k with
  | leaf _ h => simp [Go.Proofs.YtdmbgbennlnpcaaDoorAbs.leaf] at h
  | agg _ ys hs h => exact ⟨ys, rfl, vrl_arr.2 ⟨hs, h⟩⟩
theorem VR.tuple_inv {ρ : Ren} {xs : Array Value} {v' : Value} (k : VR ρ (.tuple xs) v') : ∃ ys, v' = .tuple ys ∧ VRL ρ xs.toList ys.toList := by
  cases k with
  | leaf _ h => simp [Go.Proofs.YtdmbgbennlnpcaaDoorAbs.leaf] at h
  | tuple _ ys hs h => exact ⟨ys, rfl, vrl_arr.2 ⟨hs, h⟩⟩
theorem VR.iface_inv {ρ : Ren} {t : TypeId} {v v' : Value} (k : VR ρ (.iface t v) v') : ∃ u, v' = .iface t u ∧ VR ρ v u := by
  cases k with
  | leaf _ h => exact ⟨v, rfl, .leaf _ h⟩
  | iface _ _ u h => exact ⟨u, rfl, h⟩
theorem VR.func_inv {ρ : Ren} {fn : Fn} {f1 c1 : Array Value} {v' : Value} (k : VR ρ (.func fn f1 c1) v') : ∃ f2 c2, v' = .func fn f2 c2 ∧ VRL ρ f1.toList f2.toList ∧ VRL ρ c1.toList c2.toList := by
  cases k with
  | leaf _ h =>
    simp only [Go.Proofs.YtdmbgbennlnpcaaDoorAbs.leaf, Bool.and_eq_true, Array.isEmpty_iff] at h
    obtain ⟨rfl, rfl⟩ := h
    exact ⟨_, _, rfl, VRL.nil _, VRL.nil _⟩
  | func _ _ f2 _ c2 hf hf' hc hc' => exact ⟨f2, c2, rfl, vrl_arr.2 ⟨hf, hf'⟩, vrl_arr.2 ⟨hc, hc'⟩⟩
theorem VR.ptr_inv {ρ : Ren} {a : Addr} {v' : Value} (k : VR ρ (.pointer (some a)) v') : ∃ L loc, ∃ A : Nat, a = ⟨a.block, a.off, some L⟩ ∧ ρ a.block L = some loc ∧ loc.lo ≤ a.off ∧ (A : Int) = loc.base + a.off ∧ v' = .pointer (some ⟨loc.B, A, none⟩) := by
  cases k with
  | leaf _ h => simp [Go.Proofs.YtdmbgbennlnpcaaDoorAbs.leaf] at h
  | ptr b o L A loc h hlo hA => exact ⟨L, loc, A, rfl, h, hlo, hA, rfl⟩
theorem VR.sl_inv {ρ : Ren} {a : Addr} {n c : Nat} {v' : Value} (k : VR ρ (.slice (some a) n c) v') :
    (∃ L loc, ∃ A C : Nat, a = ⟨a.block, a.off, some L⟩ ∧ ρ a.block L = some loc ∧ loc.lo ≤ a.off ∧ (A : Int) = loc.base + a.off ∧ (UNK ≤ c ∨ C = c) ∧ n ≤ C ∧ (loc.own = true → UNK ≤ c → A + C * (c - UNK) ≤ loc.size) ∧ v' = .slice (some ⟨loc.B, A, none⟩) n C) ∨
    (∃ L A C, a = ⟨a.block, a.off, some L⟩ ∧ n = 0 ∧ Zc ρ a.block L c C ∧ v' = .slice A 0 C) := by
  cases k with
  | leaf _ h => simp [Go.Proofs.YtdmbgbennlnpcaaDoorAbs.leaf] at h
  | sl b o L A _ _ C loc h hlo hA hc hn hs => exact .inl ⟨L, loc, A, C, rfl, h, hlo, hA, hc, hn, hs, rfl⟩
  | sl0 b o L _ A C hc => exact .inr ⟨L, A, C, rfl, rfl, hc, rfl⟩
theorem VR.cells {ρ : Ren} {v v' : Value} (k : VR ρ v v') : VRL ρ v.cells.toList v'.cells.toList := by
  cases k with
  | agg xs ys hs h => exact vrl_arr.2 ⟨hs, h⟩
  | leaf v h => cases v <;> first | exact VRL.cons (.leaf _ h) (VRL.nil ρ) | simp [Go.Proofs.YtdmbgbennlnpcaaDoorAbs.leaf] at h
  | ptr b o L A loc h hlo hA => exact VRL.cons (.ptr b o L A loc h hlo hA) (VRL.nil ρ)
  | sl b o L A n c C loc h hlo hA hc hn hs => exact VRL.cons (.sl b o L A n c C loc h hlo hA hc hn hs) (VRL.nil ρ)
  | sl0 b o L c A C hc => exact VRL.cons (.sl0 b o L c A C hc) (VRL.nil ρ)
  | func fn f1 f2 c1 c2 hf hf' hc hc' => exact VRL.cons (.func fn f1 f2 c1 c2 hf hf' hc hc') (VRL.nil ρ)
  | iface t v v' h => exact VRL.cons (.iface t v v' h) (VRL.nil ρ)
  | tuple xs ys hs h => exact VRL.cons (.tuple xs ys hs h) (VRL.nil ρ)
end Go.Proofs.YtdmbgbennlnpcaaDoorAbs
namespace Go.Proofs.YtdmbgbennlnpcaaDoorAbs
set_option linter.unusedVariables false
structure Blk where
  cells : List Value
  elem : TypeId
  own : Bool
  min : Nat
structure St where
  get : Nat → Option Blk
  next : Nat
  low : Nat
def St.push (S : St) (b : Blk) : St := { get := fun i => if i = S.next then some b else S.get i, next := S.next + 1, low := S.low }
def St.upd (S : St) (i : Nat) (b : Blk) : St := { get := fun j => if j = i then some b else S.get j, next := S.next, low := min S.low i }
def St.withLow (S : St) (l : Nat) : St := { S with low := l }
theorem St.get_push_self (S : St) (b : Blk) : (S.push b).get S.next = some b := by simp [St.push]
theorem St.get_push_ne (S : St) (b : Blk) {i : Nat} (h : i ≠ S.next) : (S.push b).get i = S.get i := by simp [St.push, h]
theorem St.get_push_lt (S : St) (b : Blk) {i : Nat} (h : i < S.next) : (S.push b).get i = S.get i := S.get_push_ne b (by omega)
theorem St.get_upd_self (S : St) (i : Nat) (b : Blk) : (S.upd i b).get i = some b := by simp [St.upd]
theorem St.get_upd_ne (S : St) (b : Blk) {i j : Nat} (h : j ≠ i) : (S.upd i b).get j = S.get j := by simp [St.upd, h]
@[simp] theorem St.next_push (S : St) (b : Blk) : (S.push b).next = S.next + 1 := rfl
@[simp] theorem St.low_push (S : St) (b : Blk) : (S.push b).low = S.low := rfl
@[simp] theorem St.next_upd (S : St) (i : Nat) (b : Blk) : (S.upd i b).next = S.next := rfl
@[simp] theorem St.low_upd (S : St) (i : Nat) (b : Blk) : (S.upd i b).low = min S.low i := rfl
@[simp] theorem St.get_withLow (S : St) (l : Nat) : (S.withLow l).get = S.get := rfl
@[simp] theorem St.next_withLow (S : St) (l : Nat) : (S.withLow l).next = S.next := rfl
@[simp] theorem St.low_withLow (S : St) (l : Nat) : (S.withLow l).low = l := rfl
def asize (P : Program) (t : TypeId) : Option Nat := (P.info? t).map (·.size)
structure BlkRel (P : Program) (ρ : Ren) (w : World) (L : Nat) (loc : Loc) (blk : Blk) : Prop where
  own : blk.own = loc.own
  row : loc.own = true → L ≤ blk.cells.length ∧ asize P blk.elem = some loc.esz ∧ (∀ j : Nat, loc.lo ≤ j → j < L → 0 ≤ loc.base + j ∧ loc.base + j < loc.size) ∧
    ∃ C fr, w.heap[loc.B]? = some (.cells C blk.elem fr) ∧ C.size = loc.size ∧ (fr.1 = fr.2 ∨ C.size ≤ fr.1)
  cells : (loc.own = true → blk.min ≤ L) → ∀ (j : Nat) (v : Value), loc.lo ≤ j → (loc.own = true → j < L) → blk.cells[j]? = some v → ∃ (A : Nat) (v' : Value), (A : Int) = loc.base + j ∧ w.cell? ⟨loc.B, A, none⟩ = some v' ∧ VR ρ v v'
  all : blk.own = false → blk.elem = 1 → ∃ ty fr, w.heap[loc.B]? = some (.cells blk.cells.toArray ty fr)
def Alive (S : St) (b L : Nat) : Prop := ∃ blk, S.get b = some blk ∧ (blk.own = true → blk.min ≤ L)
structure Rel (P : Program) (ρ : Ren) (S : St) (w : World) : Prop where
  glob : ∀ g, g ≤ P.globals.size → ρ g 0 = some ⟨g, 0, 0, 0, 0, false⟩
  loc : ∀ b L loc, ρ b L = some loc → loc.B < w.heap.size
  blk : ∀ b L loc blk, ρ b L = some loc → S.get b = some blk → BlkRel P ρ w L loc blk
  inj : ∀ b L loc b' L' loc', ρ b L = some loc → ρ b' L' = some loc' → loc.own = true → loc.B = loc'.B → Alive S b L → Alive S b' L' → loc'.own = true ∧ b = b' ∧ loc.base = loc'.base
theorem Rel.apart {P : Program} {ρ : Ren} {S : St} {w : World} (h : Rel P ρ S w) {b L : Nat} {loc : Loc} (hρ : ρ b L = some loc) (hown : loc.own = true) (al : Alive S b L) {b' L' : Nat} {loc' : Loc} {blk' : Blk} (k : ρ b' L' = some loc') (g : S.get b' = some blk') (o : blk'.own = false) : loc'.B ≠ loc.B := fun e => by
  have q := (h.inj b L loc b' L' loc' hρ k hown e.symm al ⟨blk', g, fun z => by rw [o] at z; cases z⟩).1
  have r := (h.blk b' L' loc' blk' k g).own
  rw [o, q] at r
  cases r
def Env3 (w w' : World) : Prop := w'.os = w.os ∧ w'.tape = w.tape ∧ w'.output = w.output
theorem Env3.refl (w : World) : Env3 w w := ⟨rfl, rfl, rfl⟩
theorem Env3.trans {a b c : World} (h : Env3 a b) (k : Env3 b c) : Env3 a c := ⟨k.1.trans h.1, k.2.1.trans h.2.1, k.2.2.trans h.2.2⟩
structure Step (P : Program) (ρ : Ren) (S : St) (w : World) (ρ' : Ren) (S' : St) (w' : World) : Prop where
  ext : ρ.le ρ'
  env : Env3 w w'
  rel : Rel P ρ' S' w'
  hsz : w.heap.size ≤ w'.heap.size
  next : S.next ≤ S'.next
  low : S'.low ≤ S.low
  new : ∀ b L loc, ρ' b L = some loc → ρ b L = none → ((S.next ≤ b ∧ b < S'.next) ∨ (b < S.next ∧ S'.low ≤ b)) ∧ (w.heap.size ≤ loc.B ∨ ∃ b0 L0 loc0, b0 < S.next ∧ S'.low ≤ b0 ∧ ρ b0 L0 = some loc0 ∧ loc0.own = true ∧ loc0.B = loc.B)
  keep : ∀ m B, m ≤ S.next → m ≤ S'.low → B < w.heap.size → (∀ b L loc, ρ b L = some loc → loc.own = true → m ≤ b → b < S.next → loc.B ≠ B) → w'.heap[B]? = w.heap[B]?
def Fresh (ρ : Ren) (S S' : St) : Prop := ∀ b L, S.next ≤ b → b < S'.next → ρ b L = none
theorem Ren.le_refl (ρ : Ren) : ρ.le ρ := fun _ _ _ h => h
theorem Ren.le_trans {ρ ρ1 ρ2 : Ren} (h : ρ.le ρ1) (k : ρ1.le ρ2) : ρ.le ρ2 := fun _ _ _ a => k _ _ _ (h _ _ _ a)
theorem Step.refl {P : Program} {ρ : Ren} {S : St} {w : World} (h : Rel P ρ S w) : Step P ρ S w ρ S w :=
  ⟨Ren.le_refl ρ, Env3.refl w, h, Nat.le_refl _, Nat.le_refl _, Nat.le_refl _, fun b L loc h1 h2 => (by rw [h1] at h2; cases h2), fun _ _ _ _ _ _ => rfl⟩
theorem Fresh.left {ρ : Ren} {S S1 S2 : St} (h : Fresh ρ S S2) (k : S1.next ≤ S2.next) : Fresh ρ S S1 := fun b L h1 h2 => h b L h1 (Nat.lt_of_lt_of_le h2 k)
theorem Fresh.right {P : Program} {ρ ρ1 : Ren} {S S1 S2 : St} {w w1 : World} (h : Fresh ρ S S2) (k : Step P ρ S w ρ1 S1 w1) : Fresh ρ1 S1 S2 := by
  intro b L h1 h2
  have hn := k.next
  cases hc : ρ1 b L with
  | none => rfl
  | some loc =>
    have h0 := h b L (by omega) h2
    obtain ⟨a, _⟩ := k.new b L loc hc h0
    exfalso
    omega
theorem Step.trans {P : Program} {ρ ρ1 ρ2 : Ren} {S S1 S2 : St} {w w1 w2 : World} (hf : Fresh ρ S S1) (h : Step P ρ S w ρ1 S1 w1) (k : Step P ρ1 S1 w1 ρ2 S2 w2) : Step P ρ S w ρ2 S2 w2 := by
  have i1 := h.next
  have i2 := k.next
  have i3 := k.low
  have i4 := h.low
  have i5 := h.hsz
  refine ⟨Ren.le_trans h.ext k.ext, h.env.trans k.env, k.rel, Nat.le_trans h.hsz k.hsz, Nat.le_trans h.next k.next, Nat.le_trans k.low h.low, fun b L loc h1 h2 => ?_, fun m B hm hl hB hk => ?_⟩
  · cases hc : ρ1 b L with
    | some loc1 =>
      have e := k.ext _ _ _ hc
      rw [h1] at e; cases e
      obtain ⟨a, c⟩ := h.new b L loc hc h2
      refine ⟨by clear c; omega, ?_⟩
      rcases c with c | ⟨b0, L0, loc0, c0, c4, c1⟩
      · exact .inl c
      · exact .inr ⟨b0, L0, loc0, c0, Nat.le_trans k.low c4, c1⟩
    | none =>
      obtain ⟨a, c⟩ := k.new b L loc h1 hc
      refine ⟨by clear c; omega, ?_⟩
      rcases c with c | ⟨b0, L0, loc0, c0, c4, c1, c2, c3⟩
      · exact .inl (by omega)
      · cases hd : ρ b0 L0 with
        | some l =>
          have e := h.ext _ _ _ hd
          rw [c1] at e; cases e
          by_cases q : b0 < S.next
          · exact .inr ⟨b0, L0, loc0, q, c4, hd, c2, c3⟩
          · rw [hf b0 L0 (by omega) c0] at hd
            cases hd
        | none =>
          obtain ⟨_, d⟩ := h.new b0 L0 loc0 c1 hd
          rw [← c3]
          rcases d with d | ⟨b1, L1, loc1, d1, d2, d3⟩
          · exact .inl d
          · exact .inr ⟨b1, L1, loc1, d1, Nat.le_trans k.low d2, d3⟩
  · rw [k.keep m B (by omega) hl (by omega) ?_, h.keep m B hm (by omega) hB hk]
    intro b L loc hb ho hmb hbn e
    cases hd : ρ b L with
    | some l =>
      have e2 := h.ext _ _ _ hd
      rw [hb] at e2; cases e2
      by_cases hlt : b < S.next
      · exact hk b L loc hd ho hmb hlt e
      · rw [hf b L (by omega) hbn] at hd
        cases hd
    | none =>
      obtain ⟨a, c⟩ := h.new b L loc hb hd
      rcases c with c | ⟨b0, L0, loc0, c0, c4, c1, c2, c3⟩
      · omega
      · exact hk b0 L0 loc0 c1 c2 (by omega) c0 (c3.trans e)
theorem Rel.same {P : Program} {ρ : Ren} {S S' : St} {w w' : World} (h : Rel P ρ S w) (hh : w'.heap = w.heap) (hg : S'.get = S.get) : Rel P ρ S' w' := by
  refine ⟨h.glob, fun b L loc k => by rw [hh]; exact h.loc b L loc k, fun b L loc blk k g => ?_, fun b L loc b' L' loc' k k' o e a a' => h.inj b L loc b' L' loc' k k' o e (by unfold Alive at *; rw [← hg]; exact a) (by unfold Alive at *; rw [← hg]; exact a')⟩
  have q := h.blk b L loc blk k (by rw [← hg]; exact g)
  refine ⟨q.own, fun o => by rw [hh]; exact q.row o, fun a j v h1 h2 h3 => ?_, fun o e => by rw [hh]; exact q.all o e⟩
  obtain ⟨A, v', e1, e2, e3⟩ := q.cells a j v h1 h2 h3
  exact ⟨A, v', e1, by unfold World.cell? at *; rw [hh]; exact e2, e3⟩
theorem Step.same {P : Program} {ρ : Ren} {S : St} {w w' : World} (h : Rel P ρ S w) (hh : w'.heap = w.heap) (he : Env3 w w') : Step P ρ S w ρ S w' :=
  ⟨Ren.le_refl ρ, he, h.same hh rfl, by rw [hh]; exact Nat.le_refl _, Nat.le_refl _, Nat.le_refl _, fun b L loc h1 h2 => (by rw [h1] at h2; cases h2), fun _ _ _ _ _ _ => by rw [hh]⟩
theorem Step.world {P : Program} {ρ ρ' : Ren} {S S' : St} {w w1 w2 w' : World} (h : Step P ρ S w1 ρ' S' w2) (h1 : w1.heap = w.heap) (h2 : w'.heap = w2.heap) (e1 : Env3 w w1) (e2 : Env3 w2 w') : Step P ρ S w ρ' S' w' := by
  refine ⟨h.ext, (e1.trans h.env).trans e2, h.rel.same h2 rfl, by rw [h2, ← h1]; exact h.hsz, h.next, h.low, ?_, ?_⟩
  · rw [← h1]; exact h.new
  · rw [← h1, h2]; exact h.keep
theorem step_push {P : Program} {ρ : Ren} {S : St} {w : World} (h : Rel P ρ S w) (hf : ∀ L, ρ S.next L = none) {cs cs' sp : List Value} {elem : TypeId} {fr : Nat × Nat} {esz : Nat} {cells : Array Value}
    (hc : VRL ρ cs cs') (hcs : cells.toList = cs' ++ sp) (he : asize P elem = some esz) (hfr : fr.1 = fr.2 ∨ cells.size ≤ fr.1) :
    Step P ρ S w (ρ.add S.next cs.length ⟨w.heap.size, 0, 0, cells.size, esz, true⟩) (S.push ⟨cs, elem, true, 0⟩) { w with heap := w.heap.push (.cells cells elem fr) } := by
  have hsz : cells.size = cs'.length + sp.length := by rw [← Array.length_toList, hcs, List.length_append]
  have hle : ρ.le (ρ.add S.next cs.length ⟨w.heap.size, 0, 0, cells.size, esz, true⟩) := by
    intro b L loc k
    unfold Ren.add
    rw [if_neg (fun q => by rw [q.1, hf] at k; cases k)]
    exact k
  have hcell : ∀ (a : Addr) (v : Value), w.cell? a = some v → ({ w with heap := w.heap.push (.cells cells elem fr) } : World).cell? a = some v := by
    intro a v k
    unfold World.cell? at *
    have hlt : a.block < w.heap.size := by
      by_cases q : a.block < w.heap.size
      · exact q
      · rw [Array.getElem?_eq_none (by omega)] at k; cases k
    simp only [Array.getElem?_push, if_neg (show ¬ a.block = w.heap.size by omega)]
    exact k
  refine ⟨hle, ⟨rfl, rfl, rfl⟩, ⟨fun g hg => hle _ _ _ (h.glob g hg), ?_, ?_, ?_⟩, by simp, by simp, Nat.le_refl _, ?_, ?_⟩
  · intro b L loc k
    unfold Ren.add at k
    split at k
    · cases k; simp
    · have := h.loc b L loc k; simp; omega
  · intro b L loc blk k g
    unfold Ren.add at k
    split at k
    · rename_i q
      obtain ⟨rfl, rfl⟩ := q
      cases k
      rw [St.get_push_self] at g
      cases g
      refine ⟨rfl, fun _ => ⟨Nat.le_refl _, he, fun j _ hj => ?_, cells, fr, by simp, rfl, hfr⟩, fun _ j v _ _ hv => ?_, fun o _ => by cases o⟩
      · have := hc.1
        simp only
        omega
      · obtain ⟨v', e, k⟩ := hc.get hv
        refine ⟨j, v', by simp, ?_, k.mono hle⟩
        have hj := (List.getElem?_eq_some_iff.1 e).1
        have e2 : cells[j]? = some v' := by
          rw [← Array.getElem?_toList, hcs, List.getElem?_append_left hj]
          exact e
        simp [World.cell?, e2]
    · rename_i q
      have hb : b ≠ S.next := by
        intro e
        subst e
        rw [hf] at k
        cases k
      rw [St.get_push_ne S _ hb] at g
      have r := h.blk b L loc blk k g
      have hB := h.loc b L loc k
      refine ⟨r.own, fun o => ?_, fun a j v h1 h2 h3 => ?_, fun o e => by obtain ⟨ty, fr2, z⟩ := r.all o e; exact ⟨ty, fr2, by simp only [Array.getElem?_push, if_neg (show ¬ loc.B = w.heap.size by omega)]; exact z⟩⟩
      · obtain ⟨a1, a2, a3, C, f, a4, a5⟩ := r.row o
        exact ⟨a1, a2, a3, C, f, by simp only [Array.getElem?_push, if_neg (show ¬ loc.B = w.heap.size by omega)]; exact a4, a5⟩
      · obtain ⟨A, v', e1, e2, e3⟩ := r.cells a j v h1 h2 h3
        exact ⟨A, v', e1, hcell _ _ e2, e3.mono hle⟩
  · intro b L loc b' L' loc' k k' o e al al'
    have old : ∀ {b L loc}, ρ b L = some loc → Alive (S.push ⟨cs, elem, true, 0⟩) b L → Alive S b L := by
      rintro b L loc k ⟨blk, g1, g2⟩
      have hb : b ≠ S.next := fun e => by subst e; rw [hf] at k; cases k
      rw [St.get_push_ne S _ hb] at g1
      exact ⟨blk, g1, g2⟩
    unfold Ren.add at k k'
    split at k
    · rename_i q
      split at k'
      · rename_i q'
        cases k; cases k'
        exact ⟨rfl, q.1.trans q'.1.symm, rfl⟩
      · cases k
        have := h.loc b' L' loc' k'
        simp only at e
        omega
    · split at k'
      · cases k'
        have := h.loc b L loc k
        simp only at e
        omega
      · exact h.inj b L loc b' L' loc' k k' o e (old k al) (old k' al')
  · intro b L loc k k'
    unfold Ren.add at k
    split at k
    · rename_i q
      cases k
      exact ⟨.inl ⟨by omega, by simp; omega⟩, .inl (Nat.le_refl _)⟩
    · rw [k'] at k; cases k
  · intro m B _ _ hB _
    simp only [Array.getElem?_push, if_neg (show ¬ B = w.heap.size by omega)]
theorem set_row {w : World} {B A : Nat} {v : Value} {C : Array Value} {t : TypeId} {fr : Nat × Nat} (h : w.heap[B]? = some (.cells C t fr)) : (w.setCell ⟨B, A, none⟩ v).heap[B]? = some (.cells (C.setIfInBounds A v) t fr) := by
  unfold World.setCell
  simp [Array.getElem?_modify, h]
theorem set_block {w : World} {B A b : Nat} {v : Value} (h : b ≠ B) : (w.setCell ⟨B, A, none⟩ v).heap[b]? = w.heap[b]? := by
  unfold World.setCell
  simp [Array.getElem?_modify, Ne.symm h]
theorem set_size {w : World} {a : Addr} {v : Value} : (w.setCell a v).heap.size = w.heap.size := by simp [World.setCell]
def putRow (w : World) (B A : Nat) : List Value → World
  | [] => w
  | v :: vs => putRow (w.setCell ⟨B, A, none⟩ v) B (A + 1) vs
theorem putRow_size : ∀ (vs : List Value) (w : World) (B A : Nat), (putRow w B A vs).heap.size = w.heap.size
  | [], _, _, _ => rfl
  | v :: vs, w, B, A => (putRow_size vs _ B (A + 1)).trans set_size
theorem putRow_env : ∀ (vs : List Value) (w : World) (B A : Nat), Env3 w (putRow w B A vs)
  | [], w, _, _ => Env3.refl w
  | v :: vs, w, B, A => Env3.trans (b := w.setCell ⟨B, A, none⟩ v) ⟨rfl, rfl, rfl⟩ (putRow_env vs _ B (A + 1))
theorem putRow_block : ∀ (vs : List Value) (w : World) (B A : Nat) {b : Nat}, b ≠ B → (putRow w B A vs).heap[b]? = w.heap[b]?
  | [], _, _, _, _, _ => rfl
  | v :: vs, w, B, A, b, h => (putRow_block vs _ B (A + 1) h).trans (set_block h)
theorem putRow_row : ∀ (vs : List Value) (w : World) (B A : Nat) {C : Array Value} {t : TypeId} {fr : Nat × Nat}, w.heap[B]? = some (.cells C t fr) →
    ∃ C', (putRow w B A vs).heap[B]? = some (.cells C' t fr) ∧ C'.size = C.size ∧ (∀ j, (j < A ∨ A + vs.length ≤ j) → C'[j]? = C[j]?) ∧ (∀ j v, vs[j]? = some v → A + j < C.size → C'[A + j]? = some v)
  | [], w, B, A, C, t, fr, h => ⟨C, h, rfl, fun _ _ => rfl, fun j v k => by simp at k⟩
  | v :: vs, w, B, A, C, t, fr, h => by
    obtain ⟨C', h1, h2, h3, h4⟩ := putRow_row vs (w.setCell ⟨B, A, none⟩ v) B (A + 1) (set_row (A := A) (v := v) h)
    refine ⟨C', h1, by simpa using h2, fun j hj => ?_, fun j u k hl => ?_⟩
    · rw [h3 j (by simp at hj; omega), Array.getElem?_setIfInBounds_ne (by simp at hj; omega)]
    · cases j with
      | zero =>
        simp at k
        subst k
        rw [Nat.add_zero, h3 A (by omega)]
        simp [show A < C.size by omega]
      | succ j =>
        have := h4 j u (by simpa using k) (by simp; omega)
        rw [show A + (j + 1) = A + 1 + j by omega]
        exact this
theorem cell_of {w : World} {B A : Nat} {C : Array Value} {t : TypeId} {fr : Nat × Nat} (h : w.heap[B]? = some (.cells C t fr)) : w.cell? ⟨B, A, none⟩ = C[A]? := by simp [World.cell?, h]
theorem step_write {P : Program} {ρ : Ren} {S : St} {w : World} (h : Rel P ρ S w) {b o : Nat} {loc : Loc} {blk : Blk} {vs vs' : List Value} (hb : b < S.next)
    (hρ : ρ b blk.cells.length = some loc) (hg : S.get b = some blk) (ho : blk.own = true) (hmin : blk.min ≤ blk.cells.length) (hlo : loc.lo ≤ o) (hin : o + vs.length ≤ blk.cells.length) {A : Nat} (hA : (A : Int) = loc.base + o) (hv : VRL ρ vs vs') :
    Step P ρ S w ρ (S.upd b { blk with cells := blk.cells.take o ++ vs ++ blk.cells.drop (o + vs.length), min := blk.cells.length }) (putRow w loc.B A vs') := by
  have r := h.blk b _ loc blk hρ hg
  have hown : loc.own = true := r.own ▸ ho
  obtain ⟨_, r2, r3, C, fr, r4, r5, r6⟩ := r.row hown
  obtain ⟨C', p1, p2, p3, p4⟩ := putRow_row vs' w loc.B A r4
  have hlen : (blk.cells.take o ++ vs ++ blk.cells.drop (o + vs.length)).length = blk.cells.length := by simp; omega
  have alb : Alive S b blk.cells.length := ⟨blk, hg, fun _ => hmin⟩
  have hrow : ∀ b' L' loc' blk', ρ b' L' = some loc' → S.get b' = some blk' → loc'.own = true → ∃ D fr', (putRow w loc.B A vs').heap[loc'.B]? = some (.cells D blk'.elem fr') ∧ D.size = loc'.size ∧ (fr'.1 = fr'.2 ∨ D.size ≤ fr'.1) := by
    intro b' L' loc' blk' k g o'
    obtain ⟨q1, q2, q3, D, fr', q4, q5, q6⟩ := (h.blk b' L' loc' blk' k g).row o'
    by_cases e : loc'.B = loc.B
    · rw [e] at q4 ⊢
      have z := Option.some.inj (r4.symm.trans q4)
      injection z with z1 z2 z3
      subst z1 z3
      exact ⟨C', fr, by rw [p1, z2], p2.trans q5, r6.imp_right (fun q => by omega)⟩
    · exact ⟨D, fr', by rw [putRow_block vs' w loc.B A e]; exact q4, q5, q6⟩
  have alold : ∀ {b' L'}, Alive (S.upd b { blk with cells := blk.cells.take o ++ vs ++ blk.cells.drop (o + vs.length), min := blk.cells.length }) b' L' → Alive S b' L' := by
    rintro b' L' ⟨blk', g1, g2⟩
    by_cases hbb : b' = b
    · subst hbb
      rw [St.get_upd_self] at g1
      cases g1
      exact ⟨blk, hg, fun o' => by have := g2 o'; simp only at this; omega⟩
    · rw [St.get_upd_ne S _ hbb] at g1
      exact ⟨blk', g1, g2⟩
  refine ⟨Ren.le_refl ρ, putRow_env _ _ _ _, ⟨h.glob, fun b' L' loc' k => by rw [putRow_size]; exact h.loc b' L' loc' k, fun b' L' loc' blk' k g => ?_, fun b1 L1 l1 b2 L2 l2 k1 k2 o e a1 a2 => h.inj b1 L1 l1 b2 L2 l2 k1 k2 o e (alold a1) (alold a2)⟩, by rw [putRow_size]; exact Nat.le_refl _, Nat.le_refl _, Nat.min_le_left _ _, fun b L loc h1 h2 => (by rw [h1] at h2; cases h2), fun m B hm hl hB hk => ?_⟩
  · by_cases hbb : b' = b
    · subst hbb
      rw [St.get_upd_self] at g
      cases g
      have r' := h.blk b' L' loc' blk k hg
      have hown' : loc'.own = true := r'.own ▸ ho
      obtain ⟨q1, q2, q3, _⟩ := r'.row hown'
      refine ⟨r'.own, fun _ => ⟨by simp only [hlen]; exact q1, q2, q3, hrow _ _ _ blk k hg hown'⟩, fun a j v h1 h2 h3 => ?_, fun o _ => Bool.noConfusion (ho.symm.trans o)⟩
      · -- only the newest version lives
        have hL : L' = blk.cells.length := by have := a hown'; simp only at this; omega
        subst hL
        rw [hρ] at k
        cases k
        have hj : j < blk.cells.length := h2 hown'
        obtain ⟨b1, b2⟩ := r3 j h1 hj
        by_cases hjo : o ≤ j ∧ j < o + vs.length
        · have hvj : vs[j - o]? = some v := by
            rw [List.append_assoc, List.getElem?_append_right (by simp; omega), List.getElem?_append_left (by simp; omega)] at h3
            rw [← h3]
            congr 1
            simp
            omega
          obtain ⟨v', e, kk⟩ := hv.get hvj
          refine ⟨A + (j - o), v', by omega, ?_, kk⟩
          rw [cell_of p1]
          exact p4 _ _ e (by omega)
        · have hc : blk.cells[j]? = some v := by
            by_cases q : j < o
            · rw [List.append_assoc, List.getElem?_append_left (by simp; omega), List.getElem?_take, if_pos q] at h3
              exact h3
            · rw [List.getElem?_append_right (by simp; omega), List.getElem?_drop] at h3
              rw [← h3]
              congr 1
              simp
              omega
          -- was the block alive before?
          obtain ⟨A1, v', e1, e2, e3⟩ := r'.cells (fun _ => hmin) j v h1 h2 hc
          refine ⟨A1, v', e1, ?_, e3⟩
          rw [cell_of r4] at e2
          rw [cell_of p1, p3 A1 (by have := hv.1; omega)]
          exact e2
    · rw [St.get_upd_ne S _ hbb] at g
      have r' := h.blk b' L' loc' blk' k g
      refine ⟨r'.own, fun o' => ?_, fun a j v h1 h2 h3 => ?_, fun o e => by obtain ⟨ty, fr2, z⟩ := r'.all o e; exact ⟨ty, fr2, by rw [putRow_block vs' w loc.B A (h.apart hρ hown alb k g o)]; exact z⟩⟩
      · obtain ⟨q1, q2, q3, _⟩ := r'.row o'
        exact ⟨q1, q2, q3, hrow _ _ _ _ k g o'⟩
      · have hne : loc'.B ≠ loc.B := fun e => hbb (h.inj b _ loc b' L' loc' hρ k hown e.symm alb ⟨blk', g, fun o' => a (r'.own ▸ o')⟩).2.1.symm
        obtain ⟨A1, v', e1, e2, e3⟩ := r'.cells a j v h1 h2 h3
        refine ⟨A1, v', e1, ?_, e3⟩
        unfold World.cell? at *
        rw [putRow_block vs' w loc.B A hne]
        exact e2
  · refine putRow_block vs' w loc.B A fun e => hk b _ loc hρ hown (Nat.le_trans hl (Nat.min_le_right _ _)) hb e.symm
theorem step_place {P : Program} {ρ : Ren} {S : St} {w : World} (h : Rel P ρ S w) {b : Nat} {loc : Loc} {blk : Blk} {vs vs' : List Value} (hb : b < S.next)
    (hρ : ρ b blk.cells.length = some loc) (hg : S.get b = some blk) (ho : blk.own = true) (hmin : blk.min ≤ blk.cells.length) {A : Nat} (hlo : loc.lo ≤ blk.cells.length) (hA : (A : Int) = loc.base + blk.cells.length) (hsz : A + vs.length ≤ loc.size) (hv : VRL ρ vs vs') (hne : 0 < vs.length) :
    Step P ρ S w (ρ.add b (blk.cells.length + vs.length) loc) (S.upd b { blk with cells := blk.cells ++ vs }) (putRow w loc.B A vs') := by
  have r := h.blk b _ loc blk hρ hg
  have hown : loc.own = true := r.own ▸ ho
  obtain ⟨_, r2, r3, C, fr, r4, r5, r6⟩ := r.row hown
  obtain ⟨C', p1, p2, p3, p4⟩ := putRow_row vs' w loc.B A r4
  have alb : Alive S b blk.cells.length := ⟨blk, hg, fun _ => hmin⟩
  have hnew : ρ b (blk.cells.length + vs.length) = none := by
    cases hc : ρ b (blk.cells.length + vs.length) with
    | none => rfl
    | some l =>
      have q := h.blk b _ l blk hc hg
      have := (q.row (q.own ▸ ho)).1
      omega
  have hle : ρ.le (ρ.add b (blk.cells.length + vs.length) loc) := by
    intro b' L' loc' k
    unfold Ren.add
    rw [if_neg (fun q => by rw [q.1, q.2, hnew] at k; cases k)]
    exact k
  have hcell : ∀ b' L' loc' blk', ρ b' L' = some loc' → S.get b' = some blk' → (loc'.own = true → blk'.min ≤ L') → ∀ (j : Nat) (v : Value), loc'.lo ≤ j → (loc'.own = true → j < L') → blk'.cells[j]? = some v → ∃ (A1 : Nat) (v' : Value), (A1 : Int) = loc'.base + j ∧ (putRow w loc.B A vs').cell? ⟨loc'.B, A1, none⟩ = some v' ∧ VR ρ v v' := by
    intro b' L' loc' blk' k g a j v h1 h2 h3
    have r' := h.blk b' L' loc' blk' k g
    obtain ⟨A1, v', e1, e2, e3⟩ := r'.cells a j v h1 h2 h3
    refine ⟨A1, v', e1, ?_, e3⟩
    by_cases e : loc'.B = loc.B
    · obtain ⟨_, rfl, hbase⟩ := h.inj b _ loc b' L' loc' hρ k hown e.symm alb ⟨blk', g, fun o' => a (r'.own ▸ o')⟩
      rw [hg] at g
      cases g
      have o' : loc'.own = true := r'.own ▸ ho
      have := (r'.row o').1
      have := h2 o'
      rw [e] at e2 ⊢
      rw [cell_of r4] at e2
      rw [cell_of p1, p3 A1 (by omega)]
      exact e2
    · unfold World.cell? at *
      rw [putRow_block vs' w loc.B A e]
      exact e2
  have hrow : ∀ b' L' loc' blk', ρ b' L' = some loc' → S.get b' = some blk' → loc'.own = true → ∃ D fr', (putRow w loc.B A vs').heap[loc'.B]? = some (.cells D blk'.elem fr') ∧ D.size = loc'.size ∧ (fr'.1 = fr'.2 ∨ D.size ≤ fr'.1) := by
    intro b' L' loc' blk' k g o'
    obtain ⟨q1, q2, q3, D, fr', q4, q5, q6⟩ := (h.blk b' L' loc' blk' k g).row o'
    by_cases e : loc'.B = loc.B
    · rw [e] at q4 ⊢
      have z := Option.some.inj (r4.symm.trans q4)
      injection z with z1 z2 z3
      subst z1 z3
      exact ⟨C', fr, by rw [p1, z2], p2.trans q5, r6.imp_right (fun q => by omega)⟩
    · exact ⟨D, fr', by rw [putRow_block vs' w loc.B A e]; exact q4, q5, q6⟩
  refine ⟨hle, putRow_env _ _ _ _, ⟨fun g hg => hle _ _ _ (h.glob g hg), fun b' L' loc' k => ?_, fun b' L' loc' blk' k g => ?_, fun b1 L1 l1 b2 L2 l2 k1 k2 o e a1 a2 => ?_⟩, by rw [putRow_size]; exact Nat.le_refl _, Nat.le_refl _, Nat.min_le_left _ _, fun b' L' loc' h1 h2 => ?_, fun m B hm hl hB hk => ?_⟩
  · rw [putRow_size]
    unfold Ren.add at k
    split at k
    · cases k; exact h.loc b _ loc hρ
    · exact h.loc b' L' loc' k
  · unfold Ren.add at k
    split at k
    · rename_i q
      obtain ⟨rfl, rfl⟩ := q
      cases k
      rw [St.get_upd_self] at g
      cases g
      refine ⟨r.own, fun _ => ⟨by simp, r2, fun j hj1 hj2 => ?_, hrow _ _ _ blk hρ hg hown⟩, fun a j v h1 h2 h3 => ?_, fun o _ => Bool.noConfusion (ho.symm.trans o)⟩
      · by_cases q : j < blk.cells.length
        · exact r3 j hj1 q
        · omega
      · by_cases q : j < blk.cells.length
        · rw [List.getElem?_append_left q] at h3
          obtain ⟨A1, v', e1, e2, e3⟩ := hcell _ _ _ _ hρ hg (fun _ => hmin) j v h1 (fun _ => q) h3
          exact ⟨A1, v', e1, e2, e3.mono hle⟩
        · rw [List.getElem?_append_right (by omega)] at h3
          have hj := h2 hown
          obtain ⟨v', e, kk⟩ := hv.get h3
          refine ⟨A + (j - blk.cells.length), v', by omega, ?_, kk.mono hle⟩
          rw [cell_of p1]
          exact p4 _ _ e (by omega)
    · rename_i q
      by_cases hbb : b' = b
      · subst hbb
        rw [St.get_upd_self] at g
        cases g
        have r' := h.blk b' L' loc' blk k hg
        have o' : loc'.own = true := r'.own ▸ ho
        obtain ⟨q1, q2, q3, _⟩ := r'.row o'
        refine ⟨r'.own, fun _ => ⟨by simp; omega, q2, q3, hrow _ _ _ blk k hg o'⟩, fun a j v h1 h2 h3 => ?_, fun o _ => Bool.noConfusion (ho.symm.trans o)⟩
        have := h2 o'
        rw [List.getElem?_append_left (by omega)] at h3
        obtain ⟨A1, v', e1, e2, e3⟩ := hcell _ _ _ _ k hg a j v h1 h2 h3
        exact ⟨A1, v', e1, e2, e3.mono hle⟩
      · rw [St.get_upd_ne S _ hbb] at g
        have r' := h.blk b' L' loc' blk' k g
        refine ⟨r'.own, fun o' => ?_, fun a j v h1 h2 h3 => ?_, fun o e => by obtain ⟨ty, fr2, z⟩ := r'.all o e; exact ⟨ty, fr2, by rw [putRow_block vs' w loc.B A (h.apart hρ hown alb k g o)]; exact z⟩⟩
        · obtain ⟨q1, q2, q3, _⟩ := r'.row o'
          exact ⟨q1, q2, q3, hrow _ _ _ _ k g o'⟩
        · obtain ⟨A1, v', e1, e2, e3⟩ := hcell _ _ _ _ k g a j v h1 h2 h3
          exact ⟨A1, v', e1, e2, e3.mono hle⟩
  · have key : ∀ b' L' l', (ρ.add b (blk.cells.length + vs.length) loc) b' L' = some l' → Alive (S.upd b { blk with cells := blk.cells ++ vs }) b' L' → ∃ L0, ρ b' L0 = some l' ∧ Alive S b' L0 := by
      rintro b' L' l' k ⟨blk', g1, g2⟩
      unfold Ren.add at k
      split at k
      · rename_i q
        cases k
        exact ⟨_, q.1 ▸ hρ, q.1 ▸ alb⟩
      · by_cases hbb : b' = b
        · subst hbb
          rw [St.get_upd_self] at g1
          cases g1
          exact ⟨L', k, blk, hg, g2⟩
        · rw [St.get_upd_ne S _ hbb] at g1
          exact ⟨L', k, blk', g1, g2⟩
    obtain ⟨x1, y1, z1⟩ := key _ _ _ k1 a1
    obtain ⟨x2, y2, z2⟩ := key _ _ _ k2 a2
    exact h.inj _ _ _ _ _ _ y1 y2 o e z1 z2
  · unfold Ren.add at h1
    split at h1
    · rename_i q
      cases h1
      exact ⟨.inr ⟨q.1 ▸ hb, by rw [St.low_upd, q.1]; exact Nat.min_le_right _ _⟩, .inr ⟨b, _, _, hb, Nat.min_le_right _ _, hρ, hown, rfl⟩⟩
    · rw [h1] at h2; cases h2
  · exact putRow_block vs' w loc.B A fun e => hk b _ loc hρ hown (Nat.le_trans hl (Nat.min_le_right _ _)) hb e.symm
theorem step_moved {P : Program} {ρ : Ren} {S : St} {w : World} (h : Rel P ρ S w) {b o esz : Nat} {blk : Blk} {vs : List Value} {cs' vs' sp : List Value} {cells : Array Value} (hb : b < S.next)
    (hg : S.get b = some blk) (ho : blk.own = true) (ho' : ∀ L loc, ρ b L = some loc → loc.own = true) (hoff : o ≤ blk.cells.length) (hold : VRL ρ (blk.cells.drop o) cs') (hv : VRL ρ vs vs') (hne : 0 < vs.length)
    (hcs : cells.toList = cs' ++ vs' ++ sp) (he : asize P blk.elem = some esz) :
    Step P ρ S w (ρ.add b (blk.cells.length + vs.length) ⟨w.heap.size, -(o : Int), o, cells.size, esz, true⟩) (S.upd b { blk with cells := blk.cells ++ vs }) { w with heap := w.heap.push (.cells cells blk.elem (0, 0)) } := by
  have hsz : cells.size = cs'.length + vs'.length + sp.length := by rw [← Array.length_toList, hcs, List.length_append, List.length_append]
  have hnew : ρ b (blk.cells.length + vs.length) = none := by
    cases hc : ρ b (blk.cells.length + vs.length) with
    | none => rfl
    | some l =>
      have q := h.blk b _ l blk hc hg
      have := (q.row (q.own ▸ ho)).1
      omega
  have hle : ρ.le (ρ.add b (blk.cells.length + vs.length) ⟨w.heap.size, -(o : Int), o, cells.size, esz, true⟩) := by
    intro b' L' loc' k
    unfold Ren.add
    rw [if_neg (fun q => by rw [q.1, q.2, hnew] at k; cases k)]
    exact k
  have hl1 := hold.1
  have hl2 := hv.1
  rw [List.length_drop] at hl1
  have hcell : ∀ (a : Addr) (v : Value), w.cell? a = some v → ({ w with heap := w.heap.push (.cells cells blk.elem (0, 0)) } : World).cell? a = some v := by
    intro a v k
    unfold World.cell? at *
    have hlt : a.block < w.heap.size := by
      by_cases q : a.block < w.heap.size
      · exact q
      · rw [Array.getElem?_eq_none (by omega)] at k; cases k
    simp only [Array.getElem?_push, if_neg (show ¬ a.block = w.heap.size by omega)]
    exact k
  have hrow : ∀ b' L' loc', ρ b' L' = some loc' → ({ w with heap := w.heap.push (.cells cells blk.elem (0, 0)) } : World).heap[loc'.B]? = w.heap[loc'.B]? := by
    intro b' L' loc' k
    have := h.loc b' L' loc' k
    simp only [Array.getElem?_push, if_neg (show ¬ loc'.B = w.heap.size by omega)]
  refine ⟨hle, ⟨rfl, rfl, rfl⟩, ⟨fun g hg => hle _ _ _ (h.glob g hg), fun b' L' loc' k => ?_, fun b' L' loc' blk' k g => ?_, fun b1 L1 l1 b2 L2 l2 k1 k2 o e a1 a2 => ?_⟩, by simp, Nat.le_refl _, Nat.min_le_left _ _, fun b' L' loc' h1 h2 => ?_, fun m B hm hl hB hk => ?_⟩
  · unfold Ren.add at k
    split at k
    · cases k; simp
    · have := h.loc b' L' loc' k; simp; omega
  · unfold Ren.add at k
    split at k
    · rename_i q
      obtain ⟨rfl, rfl⟩ := q
      cases k
      rw [St.get_upd_self] at g
      cases g
      refine ⟨ho, fun _ => ⟨by simp, he, fun j hj1 hj2 => ?_, cells, (0, 0), by simp, rfl, .inl rfl⟩, fun a j v h1 h2 h3 => ?_, fun o _ => Bool.noConfusion (ho.symm.trans o)⟩
      · simp only at hj1 ⊢
        omega
      · simp only at h1 h2 h3
        have hj := h2 trivial
        have h4 : (blk.cells.drop o ++ vs)[j - o]? = some v := by
          by_cases q : j < blk.cells.length
          · rw [List.getElem?_append_left q] at h3
            rw [List.getElem?_append_left (by simp; omega), List.getElem?_drop, show o + (j - o) = j by omega]
            exact h3
          · rw [List.getElem?_append_right (by omega)] at h3
            rw [List.getElem?_append_right (by simp; omega), List.length_drop, show j - o - (blk.cells.length - o) = j - blk.cells.length by omega]
            exact h3
        obtain ⟨v', e, kk⟩ := (hold.append hv).get h4
        refine ⟨j - o, v', by simp only; omega, ?_, kk.mono hle⟩
        have hj' := (List.getElem?_eq_some_iff.1 e).1
        have e2 : cells[j - o]? = some v' := by
          rw [← Array.getElem?_toList, hcs, List.getElem?_append_left hj']
          exact e
        simp [World.cell?, e2]
    · rename_i q
      by_cases hbb : b' = b
      · subst hbb
        rw [St.get_upd_self] at g
        cases g
        have r' := h.blk b' L' loc' blk k hg
        have o' : loc'.own = true := r'.own ▸ ho
        obtain ⟨q1, q2, q3, D, fr', q4, q5⟩ := r'.row o'
        refine ⟨r'.own, fun _ => ⟨by simp; omega, q2, q3, D, fr', by rw [hrow _ _ _ k]; exact q4, q5⟩, fun a j v h1 h2 h3 => ?_, fun o _ => Bool.noConfusion (ho.symm.trans o)⟩
        have := h2 o'
        rw [List.getElem?_append_left (by omega)] at h3
        obtain ⟨A1, v', e1, e2, e3⟩ := r'.cells a j v h1 h2 h3
        exact ⟨A1, v', e1, hcell _ _ e2, e3.mono hle⟩
      · rw [St.get_upd_ne S _ hbb] at g
        have r' := h.blk b' L' loc' blk' k g
        refine ⟨r'.own, fun o' => ?_, fun a j v h1 h2 h3 => ?_, fun o e => by obtain ⟨ty, fr2, z⟩ := r'.all o e; exact ⟨ty, fr2, by rw [hrow _ _ _ k]; exact z⟩⟩
        · obtain ⟨q1, q2, q3, D, fr', q4, q5⟩ := r'.row o'
          exact ⟨q1, q2, q3, D, fr', by rw [hrow _ _ _ k]; exact q4, q5⟩
        · obtain ⟨A1, v', e1, e2, e3⟩ := r'.cells a j v h1 h2 h3
          exact ⟨A1, v', e1, hcell _ _ e2, e3.mono hle⟩
  · have alold : ∀ {b' L'}, Alive (S.upd b { blk with cells := blk.cells ++ vs }) b' L' → Alive S b' L' := by
      rintro b' L' ⟨blk', g1, g2⟩
      by_cases hbb : b' = b
      · subst hbb
        rw [St.get_upd_self] at g1
        cases g1
        exact ⟨blk, hg, g2⟩
      · rw [St.get_upd_ne S _ hbb] at g1
        exact ⟨blk', g1, g2⟩
    unfold Ren.add at k1 k2
    split at k1
    · rename_i q1
      split at k2
      · rename_i q2
        cases k1; cases k2
        exact ⟨rfl, q1.1.trans q2.1.symm, rfl⟩
      · cases k1
        have := h.loc b2 L2 l2 k2
        simp only at e
        omega
    · split at k2
      · cases k2
        have := h.loc b1 L1 l1 k1
        simp only at e
        omega
      · exact h.inj _ _ _ _ _ _ k1 k2 o e (alold a1) (alold a2)
  · unfold Ren.add at h1
    split at h1
    · rename_i q
      cases h1
      exact ⟨.inr ⟨q.1 ▸ hb, by rw [St.low_upd, q.1]; exact Nat.min_le_right _ _⟩, .inl (Nat.le_refl _)⟩
    · rw [h1] at h2; cases h2
  · simp only [Array.getElem?_push, if_neg (show ¬ B = w.heap.size by omega)]
theorem freeze_other {w : World} {a : Addr} {n B : Nat} (h : B ≠ a.block) : (w.freeze a n).heap[B]? = w.heap[B]? := by
  unfold World.freeze
  split
  · rfl
  · simp [Array.getElem?_modify, Ne.symm h]
theorem freeze_size {w : World} {a : Addr} {n : Nat} : (w.freeze a n).heap.size = w.heap.size := by
  unfold World.freeze
  split <;> simp
theorem step_mark {P : Program} {ρ : Ren} {S : St} {w : World} (h : Rel P ρ S w) {b L : Nat} {loc : Loc} {blk : Blk} (hb : b < S.next) (hρ : ρ b L = some loc) (hg : S.get b = some blk) (ho : blk.own = true) :
    Step P ρ S w ρ (S.upd b blk) (w.freeze ⟨loc.B, loc.size, none⟩ 1) := by
  have r := h.blk b L loc blk hρ hg
  have hown : loc.own = true := r.own ▸ ho
  obtain ⟨_, _, _, C, fr, r4, r5, r6⟩ := r.row hown
  have hnew : ∃ fr', (w.freeze ⟨loc.B, loc.size, none⟩ 1).heap[loc.B]? = some (.cells C blk.elem fr') ∧ (fr'.1 = fr'.2 ∨ C.size ≤ fr'.1) := by
    unfold World.freeze
    rw [if_neg (by decide)]
    simp only [Array.getElem?_modify, if_true, r4, Option.map_some]
    obtain ⟨lo, hi⟩ := fr
    refine ⟨_, rfl, ?_⟩
    split
    · exact .inr (by simp only; omega)
    · rename_i hne
      refine .inr ?_
      simp only [beq_iff_eq] at hne
      simp only at r6 ⊢
      omega
  have hget : ∀ b', (S.upd b blk).get b' = S.get b' := fun b' => by
    by_cases e : b' = b
    · subst e; rw [St.get_upd_self, hg]
    · exact St.get_upd_ne S blk e
  refine ⟨Ren.le_refl ρ, by unfold World.freeze; split <;> exact ⟨rfl, rfl, rfl⟩, ⟨h.glob, fun b' L' loc' k => by rw [freeze_size]; exact h.loc b' L' loc' k, fun b' L' loc' blk' k g => ?_, fun b1 L1 l1 b2 L2 l2 k1 k2 o e a1 a2 => h.inj b1 L1 l1 b2 L2 l2 k1 k2 o e (by unfold Alive at *; rw [← hget]; exact a1) (by unfold Alive at *; rw [← hget]; exact a2)⟩, by rw [freeze_size]; exact Nat.le_refl _, Nat.le_refl _, Nat.min_le_left _ _, fun b L loc h1 h2 => (by rw [h1] at h2; cases h2), fun m B hm hl hB hk => ?_⟩
  · rw [hget] at g
    have r' := h.blk b' L' loc' blk' k g
    refine ⟨r'.own, fun o' => ?_, fun a j v h1 h2 h3 => ?_, fun o e => ?_⟩
    · obtain ⟨q1, q2, q3, D, fr', q4, q5, q6⟩ := r'.row o'
      by_cases e : loc'.B = loc.B
      · obtain ⟨fr2, n1, n2⟩ := hnew
        rw [e] at q4 ⊢
        have z := Option.some.inj (r4.symm.trans q4)
        injection z with z1 z2 z3
        subst z1
        exact ⟨q1, q2, q3, C, fr2, by rw [n1, z2], q5, n2⟩
      · exact ⟨q1, q2, q3, D, fr', by rw [freeze_other (by exact e)]; exact q4, q5, q6⟩
    · obtain ⟨A1, v', e1, e2, e3⟩ := r'.cells a j v h1 h2 h3
      refine ⟨A1, v', e1, ?_, e3⟩
      by_cases e : loc'.B = loc.B
      · obtain ⟨fr2, n1, _⟩ := hnew
        rw [e] at e2 ⊢
        rw [cell_of r4] at e2
        rw [cell_of n1]
        exact e2
      · unfold World.cell? at *
        rw [freeze_other (by exact e)]
        exact e2
    · obtain ⟨ty, fr2, z⟩ := r'.all o e
      by_cases e : loc'.B = loc.B
      · obtain ⟨fr3, n1, _⟩ := hnew
        rw [e] at z ⊢
        have z' := Option.some.inj (r4.symm.trans z)
        injection z' with z1 z2 z3
        subst z1
        exact ⟨_, fr3, n1⟩
      · exact ⟨ty, fr2, by rw [freeze_other (by exact e)]; exact z⟩
  · exact freeze_other fun e => hk b L loc hρ hown (Nat.le_trans hl (Nat.min_le_right _ _)) hb e.symm
def Blk.dead (blk : Blk) : Blk := { blk with min := blk.cells.length + 1 }
theorem step_kill {P : Program} {ρ : Ren} {S : St} {w : World} (h : Rel P ρ S w) {b : Nat} {blk : Blk} (hg : S.get b = some blk) (ho : blk.own = true) : Step P ρ S w ρ (S.upd b blk.dead) w := by
  have alold : ∀ {b' L' loc'}, ρ b' L' = some loc' → Alive (S.upd b blk.dead) b' L' → Alive S b' L' := by
    rintro b' L' loc' k ⟨blk', g1, g2⟩
    by_cases hbb : b' = b
    · subst hbb
      rw [St.get_upd_self] at g1
      cases g1
      have := g2 ho
      have r := h.blk b' L' loc' blk k hg
      have := (r.row (r.own ▸ ho)).1
      simp only [Blk.dead] at *
      omega
    · rw [St.get_upd_ne S _ hbb] at g1
      exact ⟨blk', g1, g2⟩
  refine ⟨Ren.le_refl ρ, Env3.refl w, ⟨h.glob, h.loc, fun b' L' loc' blk' k g => ?_, fun b1 L1 l1 b2 L2 l2 k1 k2 o e a1 a2 => h.inj b1 L1 l1 b2 L2 l2 k1 k2 o e (alold k1 a1) (alold k2 a2)⟩, Nat.le_refl _, Nat.le_refl _, Nat.min_le_left _ _, fun b L loc h1 h2 => (by rw [h1] at h2; cases h2), fun _ _ _ _ _ _ => rfl⟩
  by_cases hbb : b' = b
  · subst hbb
    rw [St.get_upd_self] at g
    cases g
    have r := h.blk b' L' loc' blk k hg
    have o' : loc'.own = true := r.own ▸ ho
    obtain ⟨q1, q2, q3, q4⟩ := r.row o'
    refine ⟨r.own, fun _ => ⟨q1, q2, q3, q4⟩, fun a j v h1 h2 h3 => ?_, fun o _ => Bool.noConfusion (ho.symm.trans o)⟩
    have := a o'
    simp only [Blk.dead] at this
    omega
  · rw [St.get_upd_ne S _ hbb] at g
    exact h.blk b' L' loc' blk' k g
theorem step_take {P : Program} {ρ : Ren} {S : St} {w : World} (h : Rel P ρ S w) (hf : ∀ L, ρ S.next L = none) {b o k : Nat} {loc : Loc} {blk : Blk} {vs vs' : List Value} (hb : b < S.next)
    (hρ : ρ b blk.cells.length = some loc) (hg : S.get b = some blk) (ho : blk.own = true) (hmin : blk.min ≤ blk.cells.length) (hlo : loc.lo ≤ o) (hin : o + k ≤ blk.cells.length) {A : Nat} (hA : (A : Int) = loc.base + o) (hsz : A + k + vs.length ≤ loc.size) (hv : VRL ρ vs vs') :
    Step P ρ S w (ρ.add S.next (k + vs.length) ⟨loc.B, loc.base + o, 0, loc.size, loc.esz, true⟩) ((S.upd b blk.dead).push ⟨(blk.cells.drop o).take k ++ vs, blk.elem, true, 0⟩) (putRow w loc.B (A + k) vs') := by
  have r := h.blk b _ loc blk hρ hg
  have hown : loc.own = true := r.own ▸ ho
  obtain ⟨_, r2, r3, C, fr, r4, r5, r6⟩ := r.row hown
  obtain ⟨C', p1, p2, p3, p4⟩ := putRow_row vs' w loc.B (A + k) r4
  have alb : Alive S b blk.cells.length := ⟨blk, hg, fun _ => hmin⟩
  have hbn : b ≠ S.next := Nat.ne_of_lt hb
  have hle : ρ.le (ρ.add S.next (k + vs.length) ⟨loc.B, loc.base + o, 0, loc.size, loc.esz, true⟩) := by
    intro b' L' loc' q
    unfold Ren.add
    rw [if_neg (fun z => by rw [z.1, hf] at q; cases q)]
    exact q
  have hkey : ∀ {b' L' loc'}, ρ b' L' = some loc' → b' ≠ S.next := fun q e => by subst e; rw [hf] at q; cases q
  have hget : ∀ {b' L' loc' blk'}, ρ b' L' = some loc' → ((S.upd b blk.dead).push ⟨(blk.cells.drop o).take k ++ vs, blk.elem, true, 0⟩).get b' = some blk' → (b' = b ∧ blk' = blk.dead) ∨ (b' ≠ b ∧ S.get b' = some blk') := by
    intro b' L' loc' blk' q g
    rw [St.get_push_ne _ _ (by simpa using hkey q)] at g
    by_cases hbb : b' = b
    · subst hbb
      rw [St.get_upd_self] at g
      exact .inl ⟨rfl, (Option.some.inj g).symm⟩
    · rw [St.get_upd_ne S _ hbb] at g
      exact .inr ⟨hbb, g⟩
  have dead : ∀ {L' loc'}, ρ b L' = some loc' → ¬ (blk.dead.own = true → blk.dead.min ≤ L') := by
    intro L' loc' q z
    have := z ho
    have r' := h.blk b L' loc' blk q hg
    have := (r'.row (r'.own ▸ ho)).1
    simp only [Blk.dead] at *
    omega
  have alold : ∀ {b' L' loc'}, ρ b' L' = some loc' → Alive ((S.upd b blk.dead).push ⟨(blk.cells.drop o).take k ++ vs, blk.elem, true, 0⟩) b' L' → b' ≠ b ∧ Alive S b' L' := by
    rintro b' L' loc' q ⟨blk', g1, g2⟩
    rcases hget q g1 with ⟨e1, e2⟩ | ⟨e1, e2⟩
    · subst e1 e2
      exact absurd g2 (dead q)
    · exact ⟨e1, blk', e2, g2⟩
  have apart : ∀ {b' L' loc'}, ρ b' L' = some loc' → b' ≠ b → Alive S b' L' → loc'.B ≠ loc.B := fun q hne al e => hne (h.inj b _ loc _ _ _ hρ q hown e.symm alb al).2.1.symm
  have hrow : ∀ b' L' loc' blk', ρ b' L' = some loc' → S.get b' = some blk' → loc'.own = true → ∃ D fr', (putRow w loc.B (A + k) vs').heap[loc'.B]? = some (.cells D blk'.elem fr') ∧ D.size = loc'.size ∧ (fr'.1 = fr'.2 ∨ D.size ≤ fr'.1) := by
    intro b' L' loc' blk' q g o'
    obtain ⟨q1, q2, q3, D, fr', q4, q5, q6⟩ := (h.blk b' L' loc' blk' q g).row o'
    by_cases e : loc'.B = loc.B
    · rw [e] at q4 ⊢
      have z := Option.some.inj (r4.symm.trans q4)
      injection z with z1 z2 z3
      subst z1 z3
      exact ⟨C', fr, by rw [p1, z2], p2.trans q5, r6.imp_right (fun q => by omega)⟩
    · exact ⟨D, fr', by rw [putRow_block vs' w loc.B (A + k) e]; exact q4, q5, q6⟩
  have hlen : ((blk.cells.drop o).take k ++ vs).length = k + vs.length := by simp; omega
  refine ⟨hle, putRow_env _ _ _ _, ⟨fun g hg => hle _ _ _ (h.glob g hg), fun b' L' loc' q => ?_, fun b' L' loc' blk' q g => ?_, fun b1 L1 l1 b2 L2 l2 k1 k2 ow e a1 a2 => ?_⟩, by rw [putRow_size]; exact Nat.le_refl _, by simp, Nat.min_le_left _ _, fun b' L' loc' h1 h2 => ?_, fun m B hm hl hB hk => ?_⟩
  · rw [putRow_size]
    unfold Ren.add at q
    split at q
    · cases q; exact h.loc b _ loc hρ
    · exact h.loc b' L' loc' q
  · unfold Ren.add at q
    split at q
    · rename_i z
      obtain ⟨rfl, rfl⟩ := z
      cases q
      have g' := g
      rw [show S.next = (S.upd b blk.dead).next from rfl, St.get_push_self] at g'
      cases g'
      refine ⟨rfl, fun _ => ⟨by simp only [hlen]; exact Nat.le_refl _, r2, fun j _ hj2 => by simp only; omega, ?_⟩, fun a j v h1 h2 h3 => ?_, fun o _ => by cases o⟩
      · exact ⟨C', fr, p1, p2.trans r5, r6.imp_right (fun q => by omega)⟩
      · simp only at h1 h2 h3 ⊢
        have hj := h2 trivial
        by_cases q : j < k
        · rw [List.getElem?_append_left (by simp; omega), List.getElem?_take, if_pos q, List.getElem?_drop] at h3
          obtain ⟨A1, v', e1, e2, e3⟩ := r.cells (fun _ => hmin) (o + j) v (by omega) (fun _ => by omega) h3
          refine ⟨A1, v', by omega, ?_, e3.mono hle⟩
          rw [cell_of r4] at e2
          rw [cell_of p1, p3 A1 (by omega)]
          exact e2
        · rw [List.getElem?_append_right (by simp; omega)] at h3
          have e0 : (List.take k (List.drop o blk.cells)).length = k := by simp; omega
          rw [e0] at h3
          obtain ⟨v', e, kk⟩ := hv.get h3
          refine ⟨A + k + (j - k), v', by omega, ?_, kk.mono hle⟩
          rw [cell_of p1]
          exact p4 _ _ e (by omega)
    · rcases hget q g with ⟨e1, e2⟩ | ⟨e1, e2⟩
      · subst e1 e2
        have r' := h.blk b' L' loc' blk q hg
        have o' : loc'.own = true := r'.own ▸ ho
        obtain ⟨q1, q2, q3, _⟩ := r'.row o'
        exact ⟨r'.own, fun _ => ⟨q1, q2, q3, hrow _ _ _ blk q hg o'⟩, fun a => absurd (fun o'' => a o') (dead q), fun o _ => Bool.noConfusion (ho.symm.trans o)⟩
      · have r' := h.blk b' L' loc' blk' q e2
        refine ⟨r'.own, fun o' => ?_, fun a j v h1 h2 h3 => ?_, fun o e => by obtain ⟨ty, fr2, z⟩ := r'.all o e; exact ⟨ty, fr2, by rw [putRow_block vs' w loc.B (A + k) (apart q e1 ⟨blk', e2, fun o' => by rw [o] at o'; cases o'⟩)]; exact z⟩⟩
        · obtain ⟨q1, q2, q3, _⟩ := r'.row o'
          exact ⟨q1, q2, q3, hrow _ _ _ _ q e2 o'⟩
        · have hne := apart q e1 ⟨blk', e2, fun o' => a (r'.own ▸ o')⟩
          obtain ⟨A1, v', e1, e2, e3⟩ := r'.cells a j v h1 h2 h3
          refine ⟨A1, v', e1, ?_, e3.mono hle⟩
          unfold World.cell? at *
          rw [putRow_block vs' w loc.B (A + k) hne]
          exact e2
  · unfold Ren.add at k1 k2
    split at k1
    · rename_i q1
      split at k2
      · rename_i q2
        cases k1; cases k2
        exact ⟨rfl, q1.1.trans q2.1.symm, rfl⟩
      · cases k1
        obtain ⟨n1, n2⟩ := alold k2 a2
        exact absurd e.symm (apart k2 n1 n2)
    · split at k2
      · cases k2
        obtain ⟨n1, n2⟩ := alold k1 a1
        exact absurd e (apart k1 n1 n2)
      · exact h.inj _ _ _ _ _ _ k1 k2 ow e (alold k1 a1).2 (alold k2 a2).2
  · unfold Ren.add at h1
    split at h1
    · rename_i q
      cases h1
      exact ⟨.inl ⟨by omega, by simp; omega⟩, .inr ⟨b, _, _, hb, Nat.min_le_right _ _, hρ, hown, rfl⟩⟩
    · rw [h1] at h2; cases h2
  · exact putRow_block vs' w loc.B (A + k) fun e => hk b _ loc hρ hown (Nat.le_trans hl (Nat.min_le_right _ _)) hb e.symm
end Go.Proofs.YtdmbgbennlnpcaaDoorAbs
namespace Go.Proofs.YtdmbgbennlnpcaaDoorAbs
set_option linter.unusedVariables false
def oneC : Value → Bool
  | .agg _ => false
  | .tuple _ => false
  | _ => true
theorem VR.one {ρ : Ren} {v v' : Value} (h : VR ρ v v') (k : oneC v = true) : v'.oneCell' = true := by
  cases h with
  | leaf v h => cases v <;> first | rfl | simp [oneC] at k
  | agg => simp [oneC] at k
  | tuple => simp [oneC] at k
  | _ => rfl
theorem VRL.one {ρ : Ren} {vs vs' : List Value} (h : VRL ρ vs vs') (k : vs.all oneC = true) : ∀ v ∈ vs', v.oneCell' = true := by
  intro v hv
  obtain ⟨i, hi⟩ := List.mem_iff_getElem?.1 hv
  have hl : i < vs.length := by have := (List.getElem?_eq_some_iff.1 hi).1; have := h.1; omega
  have e := List.getElem?_eq_getElem hl
  exact (h.2 i _ _ e hi).one (List.all_eq_true.1 k _ (List.mem_of_getElem? e))
def pureRun {α : Type} (P : Program) : Sem α → Option α
  | .pure a => some a
  | .program k => pureRun P (k P)
  | _ => none
theorem pureRun_run {α : Type} {P : Program} {e : Sem α} {a : α} (h : pureRun P e = some a) (w : World) : e.run P w = .ok a w := by
  induction e with
  | pure b => simp [pureRun] at h; subst h; rfl
  | program k ih => simp only [Sem.run]; exact ih P h
  | _ => simp [pureRun] at h
def aread (S : St) (a : Addr) (n : Nat) : Option (List Value) :=
  match a.spot, S.get a.block with
  | some L, some blk => if (blk.own = true → blk.min ≤ L ∧ a.off + n ≤ L) ∧ a.off + n ≤ blk.cells.length then some ((blk.cells.drop a.off).take n) else none
  | _, _ => none
def awrite (S : St) (a : Addr) (vs : List Value) : Option St :=
  match a.spot, S.get a.block with
  | some L, some blk => if blk.own = true ∧ L = blk.cells.length ∧ blk.min ≤ L ∧ a.off + vs.length ≤ L ∧ a.block < S.next ∧ vs.all oneC = true then
      some (S.upd a.block { blk with cells := blk.cells.take a.off ++ vs ++ blk.cells.drop (a.off + vs.length), min := blk.cells.length }) else none
  | _, _ => none
def isAgg? (P : Program) (t : TypeId) : Option Bool :=
  match P.underlying t with
  | some (.struct _) => some true
  | some (.array _ _) => some true
  | some _ => some false
  | none => none
def azero (P : Program) (t : TypeId) : Option Value := (P.info? t).bind (·.zero)
def abytes (P : Program) (t : TypeId) : Option Nat := (P.info? t).map (·.bytes)
theorem asize_info {P : Program} {t n : Nat} (h : asize P t = some n) : ∃ i, P.info? t = some i ∧ i.size = n := by
  unfold asize at h
  cases hi : P.info? t with
  | none => simp [hi] at h
  | some i => exact ⟨i, rfl, by simpa [hi] using h⟩
theorem run_size {P : Program} {t n : Nat} (h : asize P t = some n) (w : World) : (sizeOf t).run P w = .ok n w := by
  obtain ⟨i, hi, rfl⟩ := asize_info h
  simp [sizeOf, typeInfo, hi, Sem.run_pure]
theorem run_isAgg? {P : Program} {t : Nat} {b : Bool} (h : isAgg? P t = some b) (w : World) : (isAgg t).run P w = .ok b w := by
  unfold isAgg? at h
  cases hu : P.underlying t with
  | none => simp [hu] at h
  | some d => cases d <;> simp [hu] at h <;> subst h <;> simp [isAgg, run_underlying hu, Sem.run_pure]
theorem run_zero {P : Program} {t : Nat} {z : Value} (h : azero P t = some z) (w : World) : (zeroValue t).run P w = .ok z w := by
  unfold azero at h
  cases hi : P.info? t with
  | none => simp [hi] at h
  | some i => simp [hi] at h; simp [zeroValue, typeInfo, hi, h, Sem.run_pure]
theorem add_none (B A n : Nat) : (⟨B, A, none⟩ : Addr).add n = ⟨B, A + n, none⟩ := by
  unfold Addr.add
  split
  · simp_all
  · rfl
theorem aread_rel {P : Program} {ρ : Ren} {S : St} {w : World} (h : Rel P ρ S w) {b o L n : Nat} {cs : List Value} (hr : aread S ⟨b, o, some L⟩ n = some cs) {loc : Loc} (hρ : ρ b L = some loc) (hlo : loc.lo ≤ o) {A : Nat} (hA : (A : Int) = loc.base + o) :
    ∃ cs', VRL ρ cs cs' ∧ cs.length = n ∧ ∀ (j : Nat) (v : Value), cs'[j]? = some v → w.cell? ⟨loc.B, A + j, none⟩ = some v := by
  unfold aread at hr
  cases hg : S.get b with
  | none => simp [hg] at hr
  | some blk =>
    simp only [hg] at hr
    split at hr
    · rename_i hc
      obtain ⟨hc1, hc2⟩ := hc
      have e := Option.some.inj hr
      clear hr
      have r := h.blk b L loc blk hρ hg
      have hlen : cs.length = n := by rw [← e, List.length_take, List.length_drop]; omega
      have key : ∀ j, ∃ v', j < n → w.cell? ⟨loc.B, A + j, none⟩ = some v' ∧ ∀ v, cs[j]? = some v → VR ρ v v' := by
        intro j
        by_cases hj : j < n
        · have hv : blk.cells[o + j]? = some (blk.cells[o + j]'(by omega)) := List.getElem?_eq_getElem (by omega)
          obtain ⟨A1, v', e1, e2, e3⟩ := r.cells (fun ow => (hc1 (r.own.trans ow)).1) (o + j) _ (by omega) (fun ow => by have := (hc1 (r.own.trans ow)).2; omega) hv
          refine ⟨v', fun _ => ⟨?_, fun v hv' => ?_⟩⟩
          · rw [show A + j = A1 by omega]; exact e2
          · rw [← e, List.getElem?_take, if_pos hj, List.getElem?_drop, hv] at hv'
            cases hv'
            exact e3
        · exact ⟨undef, fun q => absurd q hj⟩
      obtain ⟨f, hf⟩ := Classical.skolem.1 key
      refine ⟨(List.range n).map f, ⟨by simp [hlen], fun i v v' a b => ?_⟩, hlen, fun j v hv => ?_⟩
      · have hi : i < n := by have := (List.getElem?_eq_some_iff.1 a).1; omega
        simp [hi] at b
        rw [← b]
        exact (hf i hi).2 v a
      · have hj : j < n := by have := (List.getElem?_eq_some_iff.1 hv).1; simpa using this
        simp [hj] at hv
        rw [← hv]
        exact (hf j hj).1
    · cases hr
theorem aread_run {P : Program} {ρ : Ren} {S : St} {w : World} (h : Rel P ρ S w) {b o L n : Nat} {cs : List Value} (hr : aread S ⟨b, o, some L⟩ n = some cs) {loc : Loc} (hρ : ρ b L = some loc) (hlo : loc.lo ≤ o) {A : Nat} (hA : (A : Int) = loc.base + o) :
    ∃ cs', VRL ρ cs cs' ∧ cs'.length = n ∧ (∀ (j : Nat) (v : Value), cs'[j]? = some v → w.cell? ⟨loc.B, A + j, none⟩ = some v) ∧ (loadCells ⟨loc.B, A, none⟩ n).run P w = .ok cs'.toArray w := by
  obtain ⟨cs', h1, h2, h3⟩ := aread_rel h hr hρ hlo hA
  have hl : cs'.length = n := h1.1.symm.trans h2
  refine ⟨cs', h1, hl, h3, ?_⟩
  have := run_loadCells_list (P := P) w ⟨loc.B, A, none⟩ cs' (fun j v hv => by rw [add_none]; exact h3 j v hv)
  rw [hl] at this
  exact this
theorem aread_none_run {P : Program} (a : Addr) (w : World) : (loadCells a 0).run P w = .ok #[] w := by
  have := run_loadCells_list (P := P) w a [] (fun j v hv => by simp at hv)
  simpa using this
theorem putRow_eq : ∀ (vs : List Value) (w : World) (B A : Nat), putRow w B A vs = w.setCells B A vs
  | [], _, _, _ => rfl
  | v :: vs, w, B, A => putRow_eq vs _ B (A + 1)
theorem awrite_run {P : Program} {ρ : Ren} {S S' : St} {w : World} (h : Rel P ρ S w) {b o L : Nat} {vs vs' : List Value} (hr : awrite S ⟨b, o, some L⟩ vs = some S') {loc : Loc} (hρ : ρ b L = some loc) (hlo : loc.lo ≤ o) {A : Nat} (hA : (A : Int) = loc.base + o) (hv : VRL ρ vs vs') :
    Step P ρ S w ρ S' (w.setCells loc.B A vs') ∧ (storeCells ⟨loc.B, A, none⟩ vs').run P w = .ok () (w.setCells loc.B A vs') ∧
      (∀ j, j < vs'.length → (w.cell? ⟨loc.B, A + j, none⟩).isSome = true) ∧ (∀ j, j < vs'.length → w.frozen? ⟨loc.B, A + j, none⟩ = false) := by
  unfold awrite at hr
  cases hg : S.get b with
  | none => simp [hg] at hr
  | some blk =>
    simp only [hg] at hr
    split at hr
    · rename_i hc
      obtain ⟨c1, c2, c3, c4, c5, c6⟩ := hc
      have e := Option.some.inj hr
      clear hr
      subst c2
      have r := h.blk b _ loc blk hρ hg
      have hown : loc.own = true := r.own ▸ c1
      obtain ⟨_, r2, r3, C, fr, r4, r5, r6⟩ := r.row hown
      have hl := hv.1
      have hin : ∀ j, j < vs'.length → A + j < C.size := fun j hj => by
        have := (r3 (o + j) (by omega) (by omega)).2
        rw [r5]
        omega
      have hcell : ∀ j, j < vs'.length → (w.cell? ⟨loc.B, A + j, none⟩).isSome = true := fun j hj => by
        have := hin j hj
        rw [cell_of r4]
        simp [this]
      have hfro : ∀ j, j < vs'.length → w.frozen? ⟨loc.B, A + j, none⟩ = false := fun j hj => by
        have := hin j hj
        simp only [World.frozen?, r4]
        rcases r6 with r6 | r6
        · simp only [Bool.and_eq_false_iff, decide_eq_false_iff_not]; omega
        · simp only [Bool.and_eq_false_iff, decide_eq_false_iff_not]; omega
      have hst := step_write h c5 hρ hg c1 c3 hlo c4 hA hv
      rw [putRow_eq, e] at hst
      refine ⟨hst, ?_, hcell, hfro⟩
      have := run_storeCells_cells (P := P) loc.B A vs' 0 w (by simpa using hcell) (by simpa using hfro) (hv.one c6)
      simpa using this
    · cases hr
end Go.Proofs.YtdmbgbennlnpcaaDoorAbs
namespace Go.Proofs.YtdmbgbennlnpcaaDoorAbs
set_option linter.unusedVariables false
set_option linter.unusedSimpArgs false
def outV : Next → Option Value
  | .value v => some v
  | .skip => some undef
  | _ => none
def ptrAt (b L : Nat) : Value := .pointer (some ⟨b, 0, some L⟩)
def abuild (P : Program) (t : TypeId) (parts : Array (Nat × Value)) : Option Value :=
  match azero P t, P.underlying t with
  | some z, some (.struct fields) =>
    if scalar z = true ∧ fields.all (fun f => (asize P f.type).isSome) = true then
      match Instr.fill ((fields.map fun f => (f.offset, (asize P f.type).getD 0))[·]?) z.cells parts.toList with
      | some cs => some (.agg cs)
      | none => none
    else none
  | some z, some (.array _ elem) =>
    match asize P elem with
    | some size =>
      if scalar z = true then
        match Instr.fill (fun i => some (i * size, size)) z.cells parts.toList with
        | some cs => some (.agg cs)
        | none => none
      else none
    | none => none
  | _, _ => none
def abuildSlice (P : Program) (S : St) (t : TypeId) (len : Nat) (parts : Array (Nat × Value)) : Option (Value × St) :=
  match P.underlying t with
  | some (.slice elem) =>
    match asize P elem, azero P elem with
    | some size, some z =>
      if scalar z = true ∧ 0 < len * size ∧ len * size ≤ 2 ^ 24 ∧ 0 < z.cells.size ∧ len < UNK then
        match Instr.fill (fun i => some (i * size, size)) ((Array.range (len * size)).map (z.cells[· % z.cells.size]!)) parts.toList with
        | some cs => some (.slice (some ⟨S.next, 0, some cs.size⟩) len len, S.push ⟨cs.toList, elem, true, 0⟩)
        | none => none
      else if len = 0 ∧ parts.toList = [] then some (.slice (some ⟨S.next, 0, some 0⟩) 0 0, S.push ⟨[], elem, true, 0⟩) else none
    | _, _ => none
  | _ => none
def aload (P : Program) (S : St) (t : TypeId) : Value → Option Value
  | .pointer (some a) =>
    match isAgg? P t with
    | some true =>
      match asize P t with
      | some n =>
        match aread S a n with
        | some cs => some (.agg cs.toArray)
        | none => none
      | none => none
    | some false =>
      match aread S a 1 with
      | some [v] => some v
      | _ => none
    | none => none
  | _ => none
def astore (P : Program) (S : St) (t : TypeId) (p v : Value) : Option St :=
  match p with
  | .pointer (some a) => if asize P t = some v.cells.size then awrite S a v.cells.toList else none
  | _ => none
def afieldAddr (P : Program) (s : TypeId) (f : Nat) : Value → Option Value
  | .pointer (some ⟨b, o, some L⟩) =>
    match P.underlying s with
    | some (.struct fields) =>
      match fields[f]? with
      | some fd =>
        match asize P fd.type with
        | some n => if n = 0 then none else some (.pointer (some ⟨b, o + fd.offset, some L⟩))
        | none => none
      | none => none
    | _ => none
  | _ => none
def apart (P : Program) (t : TypeId) (cs : Array Value) (off : Nat) : Option Value :=
  match isAgg? P t, asize P t with
  | some true, some n => some (.agg (cs.extract off (off + n)))
  | some false, some _ => cs[off]?
  | _, _ => none
def afield (P : Program) (t : TypeId) (f : Nat) : Value → Option Value
  | .agg cs =>
    match P.underlying t with
    | some (.struct fields) =>
      match fields[f]? with
      | some fd => apart P fd.type cs fd.offset
      | none => none
    | _ => none
  | _ => none
def aindexAddr (P : Program) (t : TypeId) (x ix : Value) : Option Value :=
  match ix with
  | .int _ i =>
    match P.underlying t, x with
    | some (.slice elem), .slice (some ⟨b, o, some L⟩) n _ =>
      match asize P elem with
      | some size => if 0 ≤ i ∧ i < n then some (.pointer (some ⟨b, o + i.toNat * size, some L⟩)) else none
      | none => none
    | some (.array n elem), .pointer (some ⟨b, o, some L⟩) =>
      match asize P elem with
      | some size => if 0 ≤ i ∧ i < n then some (.pointer (some ⟨b, o + i.toNat * size, some L⟩)) else none
      | none => none
    | _, _ => none
  | _ => none
def aindex (P : Program) (t : TypeId) (x ix : Value) : Option Value :=
  match ix, P.underlying t, x with
  | .int _ i, some (.array n elem), .agg cs =>
    match asize P elem with
    | some size => if 0 ≤ i ∧ i < n then apart P elem cs (i.toNat * size) else none
    | none => none
  | _, _, _ => none
section
variable {P : Program} {ρ : Ren} {S : St} {w : World}
theorem sim_alloc {t : TypeId} {z : Value} (h : Rel P ρ S w) (hz : azero P t = some z) (hs : scalar z = true) (hn : (asize P t).isSome = true) (hf : ∀ L, ρ S.next L = none) :
    ∃ ρ' w', (Instr.alloc t true (.tuple #[])).run P w = .ok (.pointer (some ⟨w.heap.size, 0, none⟩)) w' ∧ VR ρ' (ptrAt S.next z.cells.size) (.pointer (some ⟨w.heap.size, 0, none⟩)) ∧ Step P ρ S w ρ' (S.push ⟨z.cells.toList, t, true, 0⟩) w' := by
  obtain ⟨n, he⟩ := Option.isSome_iff_exists.1 hn
  have hc : VRL ρ z.cells.toList z.cells.toList := (VR.scalar (ρ := ρ) hs).cells
  have st := step_push (fr := (0, 0)) h hf hc (sp := []) (cells := z.cells) (by simp) he (.inl rfl)
  refine ⟨_, _, ?_, ?_, st⟩
  · simp [Instr.alloc, run_zero hz, newVar, newRow, newObj, Sem.run]
  · exact .ptr _ 0 _ 0 ⟨w.heap.size, 0, 0, z.cells.size, n, true⟩ (by simp [Ren.add]) (Nat.le_refl _) (by simp)
theorem sim_box {t : TypeId} {v v' : Value} (h : Rel P ρ S w) (hv : VR ρ v v') (hn : (asize P t).isSome = true) (hf : ∀ L, ρ S.next L = none) :
    ∃ ρ' w', (Instr.box t v').run P w = .ok (.pointer (some ⟨w.heap.size, 0, none⟩)) w' ∧ VR ρ' (ptrAt S.next v.cells.size) (.pointer (some ⟨w.heap.size, 0, none⟩)) ∧ Step P ρ S w ρ' (S.push ⟨v.cells.toList, t, true, 0⟩) w' := by
  obtain ⟨n, he⟩ := Option.isSome_iff_exists.1 hn
  have st := step_push (fr := (0, 0)) h hf hv.cells (sp := []) (cells := v'.cells) (by simp) he (.inl rfl)
  refine ⟨_, _, ?_, ?_, st⟩
  · simp [Instr.box, newVar, newRow, newObj, Sem.run]
  · exact .ptr _ 0 _ 0 ⟨w.heap.size, 0, 0, v'.cells.size, n, true⟩ (by simp [Ren.add]) (Nat.le_refl _) (by simp)
theorem fold_cells {ρ : Ren} (off : Nat) : ∀ (xs ys : List Value) (k : Nat) (cs ds : Array Value), VRL ρ xs ys → VRL ρ cs.toList ds.toList →
    VRL ρ ((xs.zipIdx k).foldl (fun cs (p : Value × Nat) => cs.setIfInBounds (off + p.2) p.1) cs).toList ((ys.zipIdx k).foldl (fun cs (p : Value × Nat) => cs.setIfInBounds (off + p.2) p.1) ds).toList
  | [], ys, k, cs, ds, h, hc => by rw [h.of_nil]; exact hc
  | x :: xs, ys, k, cs, ds, h, hc => by
    obtain ⟨y, ys', rfl, h1, h2⟩ := h.uncons
    simp only [List.zipIdx_cons, List.foldl_cons]
    refine fold_cells off xs ys' (k + 1) _ _ h2 ?_
    rw [Array.toList_setIfInBounds, Array.toList_setIfInBounds]
    exact hc.set _ h1
def PR (ρ : Ren) : List (Nat × Value) → List (Nat × Value) → Prop
  | [], [] => True
  | p :: ps, q :: qs => p.1 = q.1 ∧ VR ρ p.2 q.2 ∧ PR ρ ps qs
  | _, _ => False
theorem fill_rel (place : Nat → Option (Nat × Nat)) : ∀ (ps qs : List (Nat × Value)) (cs ds r : Array Value), PR ρ ps qs → VRL ρ cs.toList ds.toList → Instr.fill place cs ps = some r →
    ∃ r', Instr.fill place ds qs = some r' ∧ VRL ρ r.toList r'.toList
  | [], [], cs, ds, r, _, hc, h => ⟨ds, rfl, by rw [Instr.fill] at h; cases h; exact hc⟩
  | (i, v) :: ps, (j, u) :: qs, cs, ds, r, ⟨e, hv, hp⟩, hc, h => by
    simp only at e hv
    subst e
    rw [Instr.fill] at h
    rw [Instr.fill]
    have hvc := hv.cells
    have hl : v.cells.size = u.cells.size := by simpa using hvc.1
    have hl2 : cs.size = ds.size := by simpa using hc.1
    split at h
    · cases h
    · rename_i off size _
      split at h
      · cases h
      · rename_i hcond
        rw [if_neg (by rw [← hl, ← hl2]; exact hcond)]
        refine fill_rel place ps qs _ _ r hp ?_ h
        have := fold_cells (ρ := ρ) off v.cells.toList u.cells.toList 0 cs ds hvc hc
        rw [← Array.foldl_toList, ← Array.foldl_toList, Array.toList_zipIdx, Array.toList_zipIdx]
        exact this
theorem run_mapM_places (fields : Array Field) (hs : fields.all (fun f => (asize P f.type).isSome) = true) (w : World) :
    (fields.mapM fun f => do pure (f.offset, ← sizeOf f.type) : Sem (Array (Nat × Nat))).run P w = .ok (fields.map fun f => (f.offset, (asize P f.type).getD 0)) w := by
  rw [Array.mapM_eq_mapM_toList]
  have key : ∀ l : List Field, (∀ f ∈ l, (asize P f.type).isSome = true) → (l.mapM fun f => do pure (f.offset, ← sizeOf f.type) : Sem (List (Nat × Nat))).run P w = .ok (l.map fun f => (f.offset, (asize P f.type).getD 0)) w := by
    intro l
    induction l with
    | nil => intro _; simp [Sem.run_pure]
    | cons f l ih =>
      intro h
      obtain ⟨n, hn⟩ := Option.isSome_iff_exists.1 (h f (by simp))
      rw [List.mapM_cons]
      simp only [Sem.run_bind, run_size hn, Result.andThen_ok, Sem.run_pure, ih (fun g hg => h g (by simp [hg])), List.map_cons, hn, Option.getD_some]
  have hk := key fields.toList (fun f hf => by rw [Array.all_eq_true_iff_forall_mem] at hs; exact hs f (by simpa using hf))
  have e : ∀ X : Sem (List (Nat × Nat)), (List.toArray <$> X : Sem (Array (Nat × Nat))) = X >>= fun a => pure a.toArray := fun _ => rfl
  rw [e, Sem.run_bind, hk, Result.andThen_ok, Sem.run_pure]
  congr 1
  apply Array.ext'
  simp
theorem sim_build {t : TypeId} {ps qs : Array (Nat × Value)} {v : Value} (hp : PR ρ ps.toList qs.toList) (h : abuild P t ps = some v) : ∃ v', (Instr.build t qs).run P w = .ok v' w ∧ VR ρ v v' := by
  unfold abuild at h
  cases hz : azero P t with
  | none => simp [hz] at h
  | some z =>
    cases hu : P.underlying t with
    | none => simp [hz, hu] at h
    | some d =>
      cases d with
      | struct fields =>
        simp only [hz, hu] at h
        split at h
        · rename_i hc
          split at h
          · rename_i cs hfl
            simp only [Option.some.injEq] at h
            subst h
            obtain ⟨r', h1, h2⟩ := fill_rel _ _ _ _ _ _ hp ((VR.scalar (ρ := ρ) hc.1).cells) hfl
            refine ⟨.agg r', ?_, VR.agg' h2⟩
            simp only [Instr.build, Sem.run_bind, run_zero hz, Result.andThen_ok, run_underlying hu, run_mapM_places fields hc.2, h1, Sem.run_pure]
          · cases h
        · cases h
      | array n elem =>
        simp only [hz, hu] at h
        cases hs : asize P elem with
        | none => simp [hs] at h
        | some size =>
          simp only [hs] at h
          split at h
          · rename_i hc
            cases hfl : Instr.fill (fun i => some (i * size, size)) z.cells ps.toList with
            | none => simp [hfl] at h
            | some cs =>
              simp only [hfl, Option.some.injEq] at h
              subst h
              obtain ⟨r', h1, h2⟩ := fill_rel _ _ _ _ _ _ hp ((VR.scalar (ρ := ρ) hc).cells) hfl
              refine ⟨.agg r', ?_, VR.agg' h2⟩
              simp only [Instr.build, Sem.run_bind, run_zero hz, Result.andThen_ok, run_underlying hu, run_size hs, h1, Sem.run_pure]
          · cases h
      | _ => simp [hz, hu] at h
theorem scalar_rep {z : Value} (hs : scalar z = true) (hz : 0 < z.cells.size) (n : Nat) : VRL ρ ((Array.range n).map (z.cells[· % z.cells.size]!)).toList ((Array.range n).map (z.cells[· % z.cells.size]!)).toList := by
  refine VRL.refl fun v hv => ?_
  simp only [Array.toList_map, List.mem_map] at hv
  obtain ⟨i, _, rfl⟩ := hv
  have hi : i % z.cells.size < z.cells.size := Nat.mod_lt _ hz
  have hc : VRL ρ z.cells.toList z.cells.toList := (VR.scalar (ρ := ρ) hs).cells
  have e : z.cells[i % z.cells.size]! = z.cells[i % z.cells.size] := by simp [hi]
  rw [e]
  exact hc.2 (i % z.cells.size) _ _ (by simp [hi]) (by simp [hi])
theorem sim_buildSlice {t : TypeId} {len : Nat} {ps qs : Array (Nat × Value)} {v : Value} {S' : St} (h0 : Rel P ρ S w) (hp : PR ρ ps.toList qs.toList) (hf : ∀ L, ρ S.next L = none) (h : abuildSlice P S t len ps = some (v, S')) :
    ∃ ρ' w' v', (Instr.buildSlice t len qs).run P w = .ok v' w' ∧ VR ρ' v v' ∧ Step P ρ S w ρ' S' w' := by
  unfold abuildSlice at h
  cases hu : P.underlying t with
  | none => simp [hu] at h
  | some d =>
    cases d with
    | slice elem =>
      simp only [hu] at h
      cases hs : asize P elem with
      | none => simp [hs] at h
      | some size =>
        cases hz : azero P elem with
        | none => simp [hs, hz] at h
        | some z =>
          simp only [hs, hz] at h
          split at h
          · rename_i hc
            obtain ⟨c1, c2, c3, c4, c5⟩ := hc
            cases hfl : Instr.fill (fun i => some (i * size, size)) ((Array.range (len * size)).map (z.cells[· % z.cells.size]!)) ps.toList with
            | none => simp [hfl] at h
            | some cs =>
              simp only [hfl, Option.some.injEq, Prod.mk.injEq] at h
              obtain ⟨rfl, rfl⟩ := h
              obtain ⟨r', h1, h2⟩ := fill_rel _ _ _ _ _ _ hp (scalar_rep c1 c4 (len * size)) hfl
              have st := step_push (fr := (0, 0)) h0 hf h2 (sp := []) (cells := r') (elem := elem) (by simp) hs (.inl rfl)
              refine ⟨_, _, .slice (some ⟨w.heap.size, 0, none⟩) len len, ?_, ?_, st⟩
              · simp only [Instr.buildSlice, Sem.run_bind, run_underlying hu, Result.andThen_ok, run_size hs, if_neg (show ¬ len * size > 2 ^ 24 by omega), if_neg (show ¬ len * size = 0 by omega), run_zero hz, h1, Sem.run_pure]
                simp [newRow, newObj, Sem.run]
              · exact .sl _ 0 _ 0 _ _ _ ⟨w.heap.size, 0, 0, r'.size, size, true⟩ (by simp [Ren.add]) (Nat.le_refl _) (by simp) (.inr rfl) (Nat.le_refl _) (fun _ e => absurd e (Nat.not_le_of_lt c5))
          · split at h
            · rename_i hc
              obtain ⟨rfl, c2⟩ := hc
              cases h
              have hq : qs.toList = [] := by
                rw [c2] at hp
                cases hqq : qs.toList with
                | nil => rfl
                | cons a b => rw [hqq] at hp; exact hp.elim
              have st := step_push (fr := (0, 0)) h0 hf (VRL.nil ρ) (sp := []) (cells := #[]) (elem := elem) rfl hs (.inl rfl)
              refine ⟨_, _, .slice (some ⟨w.heap.size, 0, none⟩) 0 0, ?_, ?_, st⟩
              · simp only [Instr.buildSlice, Sem.run_bind, run_underlying hu, Result.andThen_ok, run_size hs, Nat.zero_mul, if_neg (show ¬ 0 > 2 ^ 24 by omega), if_true, Sem.run_pure, hq]
                simp [newRow, newObj, Sem.run, Instr.fill]
                have e : (Array.range 0).map (fun _ => (default : Value)) = #[] := Array.eq_empty_of_size_eq_zero (by simp)
                rw [e]
              · exact .sl0 _ _ _ _ _ _ (.inl ⟨rfl, .inr rfl⟩)
            · cases h
    | _ => simp [hu] at h
theorem sim_load {t : TypeId} {p p' v : Value} (h : Rel P ρ S w) (hp : VR ρ p p') (hl : aload P S t p = some v) : ∃ v', (Instr.loadAt t p').run P w = .ok v' w ∧ VR ρ v v' := by
  unfold aload at hl
  split at hl
  · rename_i a
    obtain ⟨L, loc, A, ha, h1, h2, h3, rfl⟩ := hp.ptr_inv
    rw [ha] at hl
    cases hi : isAgg? P t with
    | none => simp [hi] at hl
    | some b =>
      cases b with
      | true =>
        simp only [hi] at hl
        cases hs : asize P t with
        | none => simp [hs] at hl
        | some n =>
          simp only [hs] at hl
          cases hr : aread S ⟨a.block, a.off, some L⟩ n with
          | none => simp [hr] at hl
          | some cs =>
            simp only [hr, Option.some.injEq] at hl
            subst hl
            obtain ⟨cs', k1, k2, k3, k4⟩ := aread_run h hr h1 h2 h3
            refine ⟨.agg cs'.toArray, ?_, VR.agg' (by simpa using k1)⟩
            simp only [Instr.loadAt, Instr.sureAddr, Sem.run_bind, Sem.run_pure, Result.andThen_ok, loadVar, run_isAgg? hi, if_true, run_size hs, k4]
      | false =>
        simp only [hi] at hl
        cases hr : aread S ⟨a.block, a.off, some L⟩ 1 with
        | none => simp [hr] at hl
        | some cs =>
          obtain ⟨cs', k1, k2, k3, k4⟩ := aread_run h hr h1 h2 h3
          cases cs with
          | nil => simp [hr] at hl
          | cons u us =>
            cases us with
            | cons _ _ => simp [hr] at hl
            | nil =>
              simp only [hr, Option.some.injEq] at hl
              subst hl
              obtain ⟨y, ys, rfl, k5, k6⟩ := k1.uncons
              refine ⟨y, ?_, k5⟩
              have k7 := k3 0 y rfl
              simp only [Nat.add_zero] at k7
              simp only [Instr.loadAt, Instr.sureAddr, Sem.run_bind, Sem.run_pure, Result.andThen_ok, loadVar, run_isAgg? hi, Bool.false_eq_true, if_false]
              simp [load, Sem.run, k7]
  · cases hl
theorem sim_store {t : TypeId} {p p' v v' : Value} {S' : St} (h : Rel P ρ S w) (hp : VR ρ p p') (hv : VR ρ v v') (hl : astore P S t p v = some S') : ∃ w', (Instr.storeAt t p' v').run P w = .ok () w' ∧ Step P ρ S w ρ S' w' := by
  unfold astore at hl
  split at hl
  · rename_i a
    obtain ⟨L, loc, A, ha, h1, h2, h3, rfl⟩ := hp.ptr_inv
    split at hl
    · rename_i hs
      rw [ha] at hl
      obtain ⟨st, hrun, _⟩ := awrite_run h hl h1 h2 h3 hv.cells
      have hl' : v.cells.size = v'.cells.size := by simpa using hv.cells.1
      refine ⟨_, ?_, st⟩
      simp only [Instr.storeAt, Instr.sureAddr, Sem.run_bind, Sem.run_pure, Result.andThen_ok, storeVar, run_size hs, hl', ne_eq, not_true_eq_false, if_false]
      simpa using hrun
    · cases hl
  · cases hl
theorem sim_fieldAddr {s : TypeId} {f : Nat} {x x' v : Value} (hx : VR ρ x x') (h : afieldAddr P s f x = some v) : ∃ v', (Instr.fieldAt s x' f).run P w = .ok v' w ∧ VR ρ v v' := by
  unfold afieldAddr at h
  split at h
  · rename_i b o L
    split at h
    · rename_i fields hu
      split at h
      · rename_i fd hfd
        split at h
        · rename_i n hn
          split at h
          · cases h
          · rename_i hne
            cases h
            obtain ⟨L', loc, A, ha, h1, h2, h3, rfl⟩ := hx.ptr_inv
            cases ha
            simp only at h1 h2 h3
            refine ⟨.pointer (some ⟨loc.B, A + fd.offset, none⟩), ?_, .ptr _ _ _ _ loc h1 (by omega) (by omega)⟩
            simp only [Instr.fieldAt, Instr.sureAddr, Sem.run_bind, Sem.run_pure, Result.andThen_ok, run_underlying hu, hfd, fieldPlace, run_size hn, hne, if_false, add_none]
        · cases h
      · cases h
    · cases h
  · cases h
theorem sim_part {t : TypeId} {cs ds : Array Value} {off : Nat} {v : Value} (hc : VRL ρ cs.toList ds.toList) (h : apart P t cs off = some v) : ∃ v', (part t ds off).run P w = .ok v' w ∧ VR ρ v v' := by
  unfold apart at h
  split at h
  · rename_i n hi hs
    cases h
    refine ⟨.agg (ds.extract off (off + n)), ?_, VR.agg' ?_⟩
    · simp only [part, Sem.run_bind, run_isAgg? hi, Result.andThen_ok, if_true, run_size hs, Sem.run_pure]
    · rw [Array.toList_extract, Array.toList_extract]
      exact (hc.drop _).take _
  · rename_i hi hs
    obtain ⟨v', e, k⟩ := hc.get (i := off) (by simpa using h)
    refine ⟨v', ?_, k⟩
    have e' : ds[off]? = some v' := by simpa using e
    simp only [part, Sem.run_bind, run_isAgg? hi, Result.andThen_ok, Bool.false_eq_true, if_false, e', Sem.run_pure]
  · cases h
theorem sim_field {t : TypeId} {f : Nat} {x x' v : Value} (hx : VR ρ x x') (h : afield P t f x = some v) : ∃ v', (Instr.field t x' f).run P w = .ok v' w ∧ VR ρ v v' := by
  unfold afield at h
  split at h
  · rename_i cs
    obtain ⟨ds, rfl, hc⟩ := hx.agg_inv
    split at h
    · rename_i fields hu
      split at h
      · rename_i fd hfd
        obtain ⟨v', e, k⟩ := sim_part (w := w) hc h
        exact ⟨v', by simp only [Instr.field, Sem.run_bind, run_underlying hu, Result.andThen_ok, hfd, asAgg, Sem.run_pure, e], k⟩
      · cases h
    · cases h
  · cases h
theorem sim_indexAddr {t : TypeId} {x x' ix ix' v : Value} (hx : VR ρ x x') (hix : VR ρ ix ix') (h : aindexAddr P t x ix = some v) : ∃ v', (Instr.indexAt t x' ix').run P w = .ok v' w ∧ VR ρ v v' := by
  unfold aindexAddr at h
  split at h
  · rename_i k i
    obtain rfl := hix.scalar_eq rfl
    split at h
    · rename_i elem b o L n c hu
      split at h
      · rename_i size hs
        split at h
        · rename_i hi
          cases h
          rcases hx.sl_inv with ⟨L', loc, A, C, ha, h1, h2, h3, _, _, _, rfl⟩ | ⟨L', A, C0, ha, h0, _⟩
          · cases ha
            simp only at h1 h2 h3
            refine ⟨.pointer (some ⟨loc.B, A + i.toNat * size, none⟩), ?_, .ptr _ _ _ _ loc h1 (by omega) (by omega)⟩
            simp only [Instr.indexAt, asIntOf, Sem.run_bind, Sem.run_pure, Result.andThen_ok, run_underlying hu, hi, and_self, if_true, run_size hs, add_none]
          · omega
        · cases h
      · cases h
    · rename_i n elem b o L hu
      split at h
      · rename_i size hs
        split at h
        · rename_i hi
          cases h
          obtain ⟨L', loc, A, ha, h1, h2, h3, rfl⟩ := hx.ptr_inv
          cases ha
          simp only at h1 h2 h3
          refine ⟨.pointer (some ⟨loc.B, A + i.toNat * size, none⟩), ?_, .ptr _ _ _ _ loc h1 (by omega) (by omega)⟩
          simp only [Instr.indexAt, asIntOf, Instr.sureAddr, Sem.run_bind, Sem.run_pure, Result.andThen_ok, run_underlying hu, hi, and_self, if_true, run_size hs, add_none]
        · cases h
      · cases h
    · cases h
  · cases h
theorem sim_index {t : TypeId} {x x' ix ix' v : Value} (hx : VR ρ x x') (hix : VR ρ ix ix') (h : aindex P t x ix = some v) : ∃ v', (Instr.index t x' ix').run P w = .ok v' w ∧ VR ρ v v' := by
  unfold aindex at h
  split at h
  · rename_i k i n elem cs hu
    obtain rfl := hix.scalar_eq rfl
    obtain ⟨ds, rfl, hc⟩ := hx.agg_inv
    split at h
    · rename_i size hs
      split at h
      · rename_i hi
        obtain ⟨v', e, k⟩ := sim_part (w := w) hc h
        exact ⟨v', by simp only [Instr.index, asIntOf, Sem.run_bind, Sem.run_pure, Result.andThen_ok, run_underlying hu, hi, and_self, if_true, run_size hs, e], k⟩
      · cases h
    · cases h
  · cases h
end
end Go.Proofs.YtdmbgbennlnpcaaDoorAbs
namespace Go.Proofs.YtdmbgbennlnpcaaDoorAbs
set_option linter.unusedVariables false
set_option linter.unusedSimpArgs false
def anat : Option Value → Option (Option Nat)
  | none => some none
  | some (.int _ i) => if 0 ≤ i then some (some i.toNat) else none
  | _ => none
def asub (a : Option Addr) (l size n c : Nat) : Value :=
  match a with
  | none => .slice none n c
  | some ⟨b, o, s⟩ => .slice (some ⟨b, o + l * size, s⟩) n c
def abounds (top n : Nat) (c : Nat) (l? h? m? : Option Nat) : Option (Nat × Nat × Nat) :=
  match m?, h? with
  | some m, some h => if m ≤ top ∧ h ≤ m ∧ l?.getD 0 ≤ h ∧ m < UNK then some (l?.getD 0, h - l?.getD 0, m - l?.getD 0) else none
  | some _, none => none
  | none, _ => if h?.getD n ≤ top ∧ l?.getD 0 ≤ h?.getD n then some (l?.getD 0, h?.getD n - l?.getD 0, if UNK ≤ c then c else c - l?.getD 0) else none
def aslice (P : Program) (t : TypeId) (x : Value) (lo hi mx : Option Value) : Option Value :=
  match anat lo, anat hi, anat mx with
  | some l?, some h?, some m? =>
    match P.underlying t, x with
    | some (.slice elem), .slice a n c =>
      match asize P elem with
      | some size =>
        if c < UNK ∨ c = UNK + size then
          match abounds (if UNK ≤ c then n else c) n c l? h? m? with
          | some (l, k, d) => some (asub a l size k d)
          | none => none
        else none
      | none => none
    | some (.array N elem), .pointer (some a) =>
      match asize P elem with
      | some size =>
        if N < UNK then
          match abounds N N N l? h? m? with
          | some (l, k, d) => some (asub (some a) l size k d)
          | none => none
        else none
      | none => none
    | _, _ => none
  | _, _, _ => none
section
variable {P : Program} {ρ : Ren} {S : St} {w : World}
theorem anat_eq {x x' : Option Value} {n : Option Nat} (h : anat x = some n) (hx : ∀ v, x = some v → ∃ v', x' = some v' ∧ VR ρ v v') (hn : x = none → x' = none) : x' = x := by
  cases x with
  | none => exact hn rfl
  | some v =>
    obtain ⟨v', rfl, k⟩ := hx v rfl
    cases v <;> simp [anat] at h
    rw [k.scalar_eq rfl]
theorem run_bound {v : Value} {n y : Nat} {code : BoundsCode} (h : anat (some v) = some (some n)) (hy : n ≤ y) : (Instr.sliceBound v y code).run P w = .ok n w := by
  cases v <;> simp [anat] at h
  rename_i k i
  obtain ⟨h0, rfl⟩ := h
  have h1 : i ≤ y := by omega
  simp [Instr.sliceBound, asIntOf, Sem.run_pure, h0, h1]
theorem run_bounds {isS : Bool} {n C top c : Nat} {lo hi mx : Option Value} {l? h? m? : Option Nat} {l k d : Nat} (hl : anat lo = some l?) (hh : anat hi = some h?) (hm : anat mx = some m?)
    (hb : abounds top n c l? h? m? = some (l, k, d)) (ht : top ≤ C) (hc : UNK ≤ c ∨ C = c) :
    ∃ m, (Instr.sliceBounds isS n C lo hi mx).run P w = .ok (l, l + k, m) w ∧ l + k ≤ m ∧ m ≤ C ∧ ((UNK ≤ c ∧ d = c ∧ m = C) ∨ (d = m - l ∧ d < UNK ∧ (UNK ≤ c → m ≤ top))) ∧ l + k ≤ top := by
  have hl0 : (lo = none ∧ l? = none) ∨ ∃ v q, lo = some v ∧ l? = some q := by
    cases lo with
    | none => simp [anat] at hl; exact .inl ⟨rfl, hl.symm⟩
    | some v =>
      cases hv : l? with
      | none => subst hv; cases v <;> simp [anat] at hl
      | some q => exact .inr ⟨v, q, rfl, rfl⟩
  unfold abounds at hb
  cases mx with
  | some mv =>
    cases hmq : m? with
    | none => subst hmq; cases mv <;> simp [anat] at hm
    | some m =>
      subst hmq
      cases hi with
      | none => simp [anat] at hh; subst hh; simp at hb
      | some hv =>
        cases hhq : h? with
        | none => subst hhq; cases hv <;> simp [anat] at hh
        | some h =>
          subst hhq
          simp only at hb
          split at hb
          · rename_i q
            obtain ⟨q1, q2, q3, q4⟩ := q
            cases hb
            refine ⟨m, ?_, by omega, by omega, .inr ⟨rfl, by omega, fun _ => q1⟩, by omega⟩
            rw [show l?.getD 0 + (h - l?.getD 0) = h by omega]
            rcases hl0 with ⟨rfl, rfl⟩ | ⟨v, q, rfl, rfl⟩
            · simp only [Instr.sliceBounds, Sem.run_bind, run_bound hm (show m ≤ C by omega), Result.andThen_ok, run_bound hh q2, Sem.run_pure, Option.getD_none]
            · simp only [Option.getD_some] at q3
              simp only [Instr.sliceBounds, Sem.run_bind, run_bound hm (show m ≤ C by omega), Result.andThen_ok, run_bound hh q2, run_bound hl q3, Sem.run_pure, Option.getD_some]
          · cases hb
  | none =>
    simp [anat] at hm
    subst hm
    have hb' : (if h?.getD n ≤ top ∧ l?.getD 0 ≤ h?.getD n then some (l?.getD 0, h?.getD n - l?.getD 0, if UNK ≤ c then c else c - l?.getD 0) else none) = some (l, k, d) := by
      cases h? <;> exact hb
    clear hb
    split at hb'
    · rename_i q
      obtain ⟨q1, q2⟩ := q
      cases hb'
      have hh0 : (hi = none ∧ h? = none) ∨ ∃ v q, hi = some v ∧ h? = some q := by
        cases hi with
        | none => simp [anat] at hh; exact .inl ⟨rfl, hh.symm⟩
        | some v =>
          cases hv : h? with
          | none => subst hv; cases v <;> simp [anat] at hh
          | some q => exact .inr ⟨v, q, rfl, rfl⟩
      refine ⟨C, ?_, by omega, Nat.le_refl _, ?_, by omega⟩
      · rw [show l?.getD 0 + (h?.getD n - l?.getD 0) = h?.getD n by omega]
        rcases hh0 with ⟨rfl, rfl⟩ | ⟨v, q, rfl, rfl⟩
        · simp only [Option.getD_none] at q1 q2
          rcases hl0 with ⟨rfl, rfl⟩ | ⟨v', q', rfl, rfl⟩
          · simp only [Instr.sliceBounds, Sem.run_bind, Sem.run_pure, Result.andThen_ok, Option.getD_none]
          · simp only [Option.getD_some] at q2
            simp only [Instr.sliceBounds, Sem.run_bind, Sem.run_pure, Result.andThen_ok, Option.getD_none, Option.getD_some, run_bound hl q2]
        · simp only [Option.getD_some] at q1 q2
          rcases hl0 with ⟨rfl, rfl⟩ | ⟨v', q', rfl, rfl⟩
          · simp only [Instr.sliceBounds, Sem.run_bind, Sem.run_pure, Result.andThen_ok, Option.getD_none, Option.getD_some, run_bound hh (Nat.le_trans q1 ht)]
          · simp only [Option.getD_some] at q2
            simp only [Instr.sliceBounds, Sem.run_bind, Sem.run_pure, Result.andThen_ok, Option.getD_some, run_bound hh (Nat.le_trans q1 ht), run_bound hl q2]
      · by_cases e2 : UNK ≤ c
        · exact .inl ⟨e2, (by rw [if_pos e2]), rfl⟩
        · have e : C = c := hc.resolve_left e2
          exact .inr ⟨(by rw [if_neg e2, e]), (by rw [if_neg e2]; omega), fun q => absurd q e2⟩
    · cases hb'
theorem sim_slice {t : TypeId} {x x' v : Value} {lo hi mx : Option Value} (h0 : Rel P ρ S w) (hx : VR ρ x x') (h : aslice P t x lo hi mx = some v) : ∃ v', (Instr.sliceAt t x' lo hi mx).run P w = .ok v' w ∧ VR ρ v v' := by
  unfold aslice at h
  split at h
  · rename_i l? h? m? hl hh hm
    split at h
    · rename_i elem a n c hu
      split at h
      · rename_i size hs
        split at h
        · rename_i hcf
          split at h
          · rename_i l k d hb
            cases h
            cases a with
            | none =>
              -- a nil slice: its length and its capacity are zero
              cases hx with
              | leaf _ hlf =>
                have hn : n = 0 ∧ c = 0 := by
                  cases n <;> cases c <;> simp [leaf] at hlf ⊢
                obtain ⟨rfl, rfl⟩ := hn
                obtain ⟨m, hr, b1, b2, b3, b4⟩ := run_bounds (P := P) (w := w) (isS := true) (C := 0) hl hh hm hb (by simp [UNK]) (.inr rfl)
                have e1 : l = 0 := by omega
                have e2 : k = 0 := by omega
                have e3 : m = 0 := by omega
                have e4 : d = 0 := by rcases b3 with b3 | b3 <;> first | omega | (have := b3.1; simp [UNK] at this)
                subst e1 e2 e3 e4
                refine ⟨.slice none 0 0, ?_, .leaf _ rfl⟩
                simp only [Instr.sliceAt, Instr.slice, Sem.run_bind, run_underlying hu, Result.andThen_ok, hr, run_size hs, Sem.run_pure]
                simp
            | some ad =>
              obtain ⟨b, o, s⟩ := ad
              rcases hx.sl_inv with ⟨L, loc, A, C, ha, h1, h2, h3, hc, hn, hsz, rfl⟩ | ⟨L, A, C, ha, hn0, hc, rfl⟩
              · cases ha
                simp only at h1 h2 h3
                have ht : (if UNK ≤ c then n else c) ≤ C := by
                  split
                  · exact hn
                  · rcases hc with hc | hc <;> omega
                obtain ⟨m, hr, b1, b2, b3, b4⟩ := run_bounds (P := P) (w := w) (isS := true) (C := C) hl hh hm hb ht hc
                refine ⟨.slice (if m = l then some ⟨loc.B, A, none⟩ else (some ⟨loc.B, A, none⟩ : Option Addr).map (·.add (l * size))) (l + k - l) (m - l), ?_, ?_⟩
                · simp only [Instr.sliceAt, Instr.slice, Sem.run_bind, run_underlying hu, Result.andThen_ok, hr, run_size hs, Sem.run_pure]
                · rw [show l + k - l = k by omega]
                  unfold asub
                  simp only
                  by_cases e : m = l
                  · rw [if_pos e]
                    have hk : k = 0 := by omega
                    subst hk
                    rw [show m - l = 0 by omega]
                    exact .sl0 _ _ _ _ _ _ (.inl ⟨rfl, by rcases b3 with b3 | b3 <;> omega⟩)
                  · rw [if_neg e]
                    simp only [Option.map_some, add_none]
                    refine .sl _ _ _ _ _ _ _ loc h1 (by omega) (by omega) ?_ (by omega) ?_
                    · rcases b3 with ⟨b5, b6, _⟩ | b3
                      · exact .inl (b6 ▸ b5)
                      · exact .inr b3.1.symm
                    · intro ow hd
                      rcases b3 with ⟨hcu, hdc, hmC⟩ | b3
                      · have h5 := hsz ow hcu
                        have he : c - UNK = size := by omega
                        rw [hdc, he]
                        rw [he] at h5
                        subst hmC
                        have : l * size + (m - l) * size = m * size := by rw [← Nat.add_mul, show l + (m - l) = m by omega]
                        omega
                      · omega
              · cases ha
                subst hn0
                have ht : (if UNK ≤ c then 0 else c) ≤ C := by
                  split
                  · exact Nat.zero_le _
                  · rcases hc with hc | hc <;> omega
                obtain ⟨m, hr, b1, b2, b3, b4⟩ := run_bounds (P := P) (w := w) (isS := true) (C := C) hl hh hm hb ht (by rcases hc with hc | hc <;> omega)
                have h00 : l + k ≤ 0 ∨ c = 0 := by
                  by_cases q : UNK ≤ c
                  · rw [if_pos q] at b4; exact .inl b4
                  · rcases hc with hc | hc <;> omega
                have hC : c = 0 → C = 0 := fun q => by
                  rcases hc with hc | hc
                  · exact hc.1
                  · have := hc.1; rw [q] at this; simp [UNK] at this
                have e12 : l = 0 ∧ k = 0 := by
                  rcases h00 with q | q
                  · omega
                  · have := hC q
                    omega
                obtain ⟨e1, e2⟩ := e12
                subst e1 e2
                refine ⟨.slice A 0 m, ?_, ?_⟩
                · simp only [Instr.sliceAt, Instr.slice, Sem.run_bind, run_underlying hu, Result.andThen_ok, hr, run_size hs, Sem.run_pure]
                  cases A with
                  | none => simp
                  | some a => simp [Addr.add]
                · refine .sl0 _ _ _ _ _ _ ?_
                  rcases b3 with ⟨b5, b6, b7⟩ | ⟨b5, b6, b7⟩
                  · subst b7
                    rcases hc with ⟨c1, c2⟩ | ⟨c1, c2⟩
                    · exact .inl ⟨c1, .inl (b6 ▸ b5)⟩
                    · exact .inr ⟨b6 ▸ b5, c2⟩
                  · by_cases q : UNK ≤ c
                    · have := b7 q
                      rw [if_pos q] at this
                      exact .inl ⟨by omega, by omega⟩
                    · have hc0 : c = 0 := by rcases hc with hc | hc <;> omega
                      have := hC hc0
                      exact .inl ⟨by omega, by omega⟩
          · cases h
        · cases h
      · cases h
    · rename_i N elem ad hu
      split at h
      · rename_i size hs
        split at h
        · rename_i hN
          split at h
          · rename_i l k d hb
            cases h
            obtain ⟨L, loc, A, ha, h1, h2, h3, rfl⟩ := hx.ptr_inv
            obtain ⟨m, hr, b1, b2, b3, b4⟩ := run_bounds (P := P) (w := w) (isS := false) (C := N) hl hh hm hb (Nat.le_refl _) (.inr rfl)
            have hd : d = m - l := by rcases b3 with b3 | b3 <;> omega
            refine ⟨.slice (some (if m = l then ⟨loc.B, A, none⟩ else (⟨loc.B, A, none⟩ : Addr).add (l * size))) (l + k - l) (m - l), ?_, ?_⟩
            · simp only [Instr.sliceAt, Instr.sureAddr, Sem.run_bind, run_underlying hu, Result.andThen_ok, hr, run_size hs, Sem.run_pure]
            · rw [show l + k - l = k by omega, ha]
              unfold asub
              simp only
              by_cases e : m = l
              · rw [if_pos e]
                have hk : k = 0 := by omega
                subst hk
                rw [show m - l = 0 by omega]
                exact .sl0 _ _ _ _ _ _ (.inl ⟨rfl, by omega⟩)
              · rw [if_neg e, add_none]
                exact .sl _ _ _ _ _ _ _ loc h1 (by omega) (by omega) (.inr hd.symm) (by omega) (fun _ hU => by omega)
          · cases h
        · cases h
      · cases h
    · cases h
  · cases h
end
end Go.Proofs.YtdmbgbennlnpcaaDoorAbs
namespace Go.Proofs.YtdmbgbennlnpcaaDoorAbs
set_option linter.unusedVariables false
set_option linter.unusedSimpArgs false
def asrc (P : Program) (S : St) (tx : TypeId) (size : Nat) (x : Value) : Option (Nat × List Value) :=
  match x, P.underlying tx with
  | .slice none 0 0, some (.slice _) => some (0, [])
  | .slice (some ⟨b, o, s⟩) m _, some (.slice _) =>
    if m = 0 then some (0, []) else
      match aread S ⟨b, o, s⟩ (m * size) with
      | some xs => if xs.all oneC = true then some (m, xs) else none
      | none => none
  | .string s, some .string => if size = 1 then some (s.size, byteCells s) else none
  | _, _ => none
def aappend (P : Program) (S : St) (t tx : TypeId) (s x : Value) : Option (Value × St) :=
  match P.underlying t with
  | some (.slice elem) =>
    match asize P elem, abytes P elem, azero P elem with
    | some size, some bytes, some z =>
      if 0 < size ∧ 0 < bytes ∧ z.cells.size = size then
        match asrc P S tx size x, s with
        | some (m, xs), .slice none 0 0 =>
          if m = 0 then some (s, S) else
            if (3 * m + 2048) * bytes ≤ 281474976710656 then some (.slice (some ⟨S.next, 0, some xs.length⟩) m (UNK + size), S.push ⟨xs, elem, true, 0⟩) else none
        | some (m, xs), .slice (some ⟨b, o, some L⟩) n c =>
          if m = 0 then some (s, S) else
            if c = UNK + size then
              match S.get b with
              | some blk =>
                if blk.own = true ∧ L = blk.cells.length ∧ blk.min ≤ L ∧ o + n * size = L ∧ b < S.next ∧ blk.elem = elem ∧ (3 * (n + m) + 2048) * bytes ≤ 281474976710656 then
                  some (.slice (some ⟨b, o, some (L + xs.length)⟩) (n + m) (UNK + size), S.upd b { blk with cells := blk.cells ++ xs })
                else if blk.own = true ∧ L = blk.cells.length ∧ blk.min ≤ L ∧ o + n * size ≤ L ∧ b < S.next ∧ blk.elem = elem ∧ (3 * (n + m) + 2048) * bytes ≤ 281474976710656 then
                  some (.slice (some ⟨S.next, 0, some (n * size + xs.length)⟩) (n + m) (UNK + size), (S.upd b blk.dead).push ⟨(blk.cells.drop o).take (n * size) ++ xs, elem, true, 0⟩)
                else none
              | none => none
            else if UNK ≤ c then none
            else if n + m ≤ c then
              match awrite S ⟨b, o + n * size, some L⟩ xs with
              | some S' => some (.slice (some ⟨b, o, some L⟩) (n + m) c, S')
              | none => none
            else
              match (if n = 0 then some [] else aread S ⟨b, o, some L⟩ (n * size)) with
              | some olds =>
                if (3 * (n + m) + 2048) * bytes ≤ 281474976710656 ∧ c < n + m ∧ olds.all oneC = true then
                  some (.slice (some ⟨S.next, 0, some (olds.length + xs.length)⟩) (n + m) (UNK + size), S.push ⟨olds ++ xs, elem, true, 0⟩)
                else none
              | none => none
        | _, _ => none
      else none
    | _, _, _ => none
  | _ => none
theorem growBy_le (n c : Nat) (h : c < n) : Builtin.growBy n 4 c ≤ 3 * n + 2048 := by
  rw [growBy_four]
  repeat' split
  all_goals omega
theorem nextcap_le (n c : Nat) (h : c < n) : Builtin.nextslicecap n c ≤ 3 * n + 2048 := by
  unfold Builtin.nextslicecap
  split
  · omega
  · split
    · omega
    · exact growBy_le n c h
theorem zeroCells_size (z : Array Value) (n : Nat) : (Builtin.zeroCells z n).size = n * z.size := by simp [Builtin.zeroCells]
section
variable {P : Program} {ρ : Ren} {S : St} {w : World}
theorem sim_src {tx size m : Nat} {x x' : Value} {xs : List Value} (h : Rel P ρ S w) (hx : VR ρ x x') (hr : asrc P S tx size x = some (m, xs)) :
    ∃ xs', VRL ρ xs xs' ∧ Src P size tx x' m xs' w := by
  unfold asrc at hr
  split at hr
  · rename_i e hu
    cases hr
    obtain rfl := hx.scalar_eq rfl
    exact ⟨[], VRL.nil ρ, Src.ofNil w hu 0⟩
  · rename_i b o s m' c e hu
    split at hr
    · rename_i hm
      cases hr
      subst hm
      rcases hx.sl_inv with ⟨L, loc, A, C, _, _, _, _, _, _, _, rfl⟩ | ⟨L, A, C, _, _, _, rfl⟩
      · exact ⟨[], VRL.nil ρ, Src.ofSlice w hu _ 0 C [] (by simp) (fun j u k => by simp at k) (fun u k => by simp at k)⟩
      · cases A with
        | none => exact ⟨[], VRL.nil ρ, Src.ofNil w hu C⟩
        | some a => exact ⟨[], VRL.nil ρ, Src.ofSlice w hu a 0 C [] (by simp) (fun j u k => by simp at k) (fun u k => by simp at k)⟩
    · rename_i hm
      split at hr
      · rename_i xs0 hrd
        split at hr
        · rename_i hone
          cases hr
          rcases hx.sl_inv with ⟨L, loc, A, C, ha, h1, h2, h3, _, _, _, rfl⟩ | ⟨L, A, _, _, hn, _⟩
          · cases ha
            obtain ⟨xs', k1, k2, k3, _⟩ := aread_run h hrd h1 h2 h3
            exact ⟨xs', k1, Src.ofSlice w hu _ _ C xs' k2 (fun j u k => by rw [add_none]; exact k3 j u k) (k1.one hone)⟩
          · exact absurd hn hm
        · cases hr
      · cases hr
  · rename_i s hu
    split at hr
    · rename_i hs
      cases hr
      subst hs
      obtain rfl := hx.scalar_eq rfl
      refine ⟨byteCells s, VRL.refl fun v hv => ?_, Src.ofString w hu s⟩
      unfold byteCells at hv
      obtain ⟨b, _, rfl⟩ := List.mem_map.1 hv
      exact .leaf _ rfl
    · cases hr
  · cases hr
theorem sim_append {t tx ty : TypeId} {s s' x x' v : Value} {S' : St} (h : Rel P ρ S w) (hs : VR ρ s s') (hx : VR ρ x x') (hf : Fresh ρ S S') (hr : aappend P S t tx s x = some (v, S')) :
    ∃ ρ' w' v', (Builtin.append_ #[t, tx] ty #[s', x']).run P w = .ok v' w' ∧ VR ρ' v v' ∧ Step P ρ S w ρ' S' w' := by
  unfold aappend at hr
  split at hr
  case h_2 => cases hr
  rename_i elem hu
  split at hr
  case h_2 => cases hr
  rename_i size bytes z hsz hby hz
  split at hr
  case isFalse => cases hr
  rename_i hc
  obtain ⟨c1, c2, c3⟩ := hc
  obtain ⟨i, hi, hi1⟩ := asize_info hsz
  have hi2 : i.bytes = bytes := by simpa [abytes, hi] using hby
  have hi3 : i.zero = some z := by simpa [azero, hi] using hz
  subst hi1
  split at hr
  · -- a nil slice
    rename_i m xs hsrc
    obtain ⟨xs', k1, src⟩ := sim_src h hx hsrc
    obtain rfl := hs.scalar_eq rfl
    split at hr
    · rename_i hm
      cases hr
      subst hm
      have hn : xs' = [] := by have := src.newsLen; simpa using this
      subst hn
      exact ⟨ρ, w, _, run_append_nothing w t tx ty elem i hu hi none 0 0 (Nat.le_refl _) x' src, .leaf _ rfl, Step.refl h⟩
    · rename_i hm
      split at hr
      · rename_i hfit
        cases hr
        have hnc := nextcap_le m 0 (by omega)
        have hfit2 : Builtin.nextslicecap (0 + m) 0 * i.bytes ≤ 281474976710656 := by
          rw [Nat.zero_add, hi2]
          exact Nat.le_trans (Nat.mul_le_mul_right _ hnc) hfit
        have hm63 : ((0 + m : Nat) : Int) ≤ 9223372036854775807 := by
          have : 3 * m + 2048 ≤ 281474976710656 := Nat.le_trans (Nat.le_mul_of_pos_right _ c2) hfit
          omega
        have hrun := run_append_grow_src w t tx ty elem i z hu hi hi3 none 0 0 [] (by simpa using run_firstCells_none (P := P) w.drew i.size 0 0 0) x' m xs' src (by omega) hm63 hfit2
        rw [Nat.zero_add] at hrun
        have hg := grownCap_ge w m 0 elem
        have hl := src.newsLen
        have hw : Rel P ρ S w.drew := h.same rfl rfl
        have st := step_push (fr := (0, 0)) (w := w.drew) hw (fun L => hf S.next L (Nat.le_refl _) (by simp)) k1 (sp := (Builtin.zeroCells z.cells (grownCap w m 0 elem - m)).toList) (cells := (([] ++ xs').toArray ++ Builtin.zeroCells z.cells (grownCap w m 0 elem - m))) (elem := elem) (by simp) hsz (.inl rfl)
        refine ⟨_, _, _, hrun, ?_, st.world rfl rfl ⟨rfl, rfl, rfl⟩ ⟨rfl, rfl, rfl⟩⟩
        refine .sl _ 0 _ 0 _ _ _ ⟨w.heap.size, 0, 0, _, i.size, true⟩ (by simp [Ren.add]; rfl) (Nat.le_refl _) (by simp) (.inl (Nat.le_add_right _ _)) hg (fun _ _ => ?_)
        rw [Nat.add_sub_cancel_left]
        simp only [List.nil_append, Array.size_append, List.size_toArray, zeroCells_size, c3, hl, Nat.zero_add]
        rw [← Nat.add_mul]
        exact Nat.mul_le_mul_right _ (by omega)
      · cases hr
  · rename_i m xs b o L n c hsrc
    obtain ⟨xs', k1, src⟩ := sim_src h hx hsrc
    have hlx := k1.1
    have hl := src.newsLen
    split at hr
    · rename_i hm
      cases hr
      subst hm
      have hn : xs' = [] := by simpa using hl
      subst hn
      rcases hs.sl_inv with ⟨L', loc, A, C, _, h1, h2, h3, _, hnC, _, rfl⟩ | ⟨L', A, C, _, hn0, _, rfl⟩
      · exact ⟨ρ, w, _, run_append_nothing w t tx ty elem i hu hi _ n C hnC x' src, hs, Step.refl h⟩
      · subst hn0
        exact ⟨ρ, w, _, run_append_nothing w t tx ty elem i hu hi _ 0 C (Nat.zero_le _) x' src, hs, Step.refl h⟩
    · rename_i hm
      have hpos : 0 < xs.length := by rw [hlx, hl]; exact Nat.mul_pos (by omega) c1
      split at hr
      · -- an unknown capacity
        rename_i hcU
        split at hr
        case h_2 => cases hr
        rename_i blk hg
        split at hr
        case isFalse =>
          split at hr
          case isFalse => cases hr
          rename_i hcond
          obtain ⟨d1, d2, d3, d4, d5, d6, d7⟩ := hcond
          cases hr
          subst d2
          subst d6
          have hm63 : ((n + m : Nat) : Int) ≤ 9223372036854775807 := by
            have : 3 * (n + m) + 2048 ≤ 281474976710656 := Nat.le_trans (Nat.le_mul_of_pos_right _ c2) d7
            omega
          have hownall : ∀ L loc, ρ b L = some loc → loc.own = true := fun L loc k => (h.blk b L loc blk k hg).own ▸ d1
          have fr : ∀ L, ρ S.next L = none := fun L => hf S.next L (Nat.le_refl _) (by simp)
          have htk : ((blk.cells.drop o).take (n * i.size)).length = n * i.size := by simp; omega
          -- what moves
          have moved : ∀ (C : Nat) (s0 : Option Addr) (olds' : List Value), C < n + m → VRL ρ ((blk.cells.drop o).take (n * i.size)) olds' →
              (Builtin.firstCells i.size n (.slice s0 n C)).run P w.drew = .ok olds'.toArray w.drew →
              ∃ ρ' w' v', (Builtin.append_ #[t, tx] ty #[.slice s0 n C, x']).run P w = .ok v' w' ∧ VR ρ' (.slice (some ⟨S.next, 0, some (n * i.size + xs.length)⟩) (n + m) (UNK + i.size)) v' ∧ Step P ρ S w ρ' ((S.upd b blk.dead).push ⟨(blk.cells.drop o).take (n * i.size) ++ xs, blk.elem, true, 0⟩) w' := by
            intro C s0 olds' hC hold hrd
            have hnc := nextcap_le (n + m) C hC
            have hfit2 : Builtin.nextslicecap (n + m) C * i.bytes ≤ 281474976710656 := by
              rw [hi2]
              exact Nat.le_trans (Nat.mul_le_mul_right _ hnc) d7
            have hrun := run_append_grow_src w t tx ty blk.elem i z hu hi hi3 s0 n C olds' hrd x' m xs' src hC hm63 hfit2
            have hgc := grownCap_ge w (n + m) C blk.elem
            have hw : Rel P ρ S w.drew := h.same rfl rfl
            have sk := step_kill hw hg d1
            have st := step_push (fr := (0, 0)) (w := w.drew) sk.rel (fun L => fr L) (hold.append k1) (sp := (Builtin.zeroCells z.cells (grownCap w (n + m) C blk.elem - (n + m))).toList) (cells := ((olds' ++ xs').toArray ++ Builtin.zeroCells z.cells (grownCap w (n + m) C blk.elem - (n + m)))) (elem := blk.elem) (by simp) hsz (.inl rfl)
            have hfs : Fresh ρ S (S.upd b blk.dead) := fun b L h1 h2 => absurd h2 (Nat.not_lt_of_le h1)
            have st2 := Step.trans hfs sk st
            rw [List.length_append, htk] at st2
            refine ⟨_, _, _, hrun, ?_, st2.world rfl rfl ⟨rfl, rfl, rfl⟩ ⟨rfl, rfl, rfl⟩⟩
            have hlo := hold.1
            rw [htk] at hlo
            refine .sl _ 0 _ 0 _ _ _ ⟨w.heap.size, 0, 0, _, i.size, true⟩ (by simp [Ren.add, St.upd]; rfl) (Nat.le_refl _) (by simp) (.inl (Nat.le_add_right _ _)) hgc (fun _ _ => ?_)
            rw [Nat.add_sub_cancel_left]
            simp only [Array.size_append, List.size_toArray, List.length_append, zeroCells_size, c3, hl, Nat.zero_add, ← hlo]
            rw [← Nat.add_mul, ← Nat.add_mul]
            exact Nat.mul_le_mul_right _ (by omega)
          rcases hs.sl_inv with ⟨L', loc, A, C, ha, h1, h2, h3, _, hnC, hsp, rfl⟩ | ⟨L', A, C0, ha, hn0, hz0, rfl⟩
          · cases ha
            simp only at h1 h2 h3
            have r := h.blk b _ loc blk h1 hg
            have hown : loc.own = true := r.own ▸ d1
            have hesz : loc.esz = i.size := by
              have := (r.row hown).2.1
              rw [hsz] at this
              exact (Option.some.inj this).symm
            have hsp' := hsp hown (by omega)
            rw [show c - UNK = i.size by omega] at hsp'
            by_cases hroom : n + m ≤ C
            · -- in place
              obtain ⟨_, r2, r3, D, fr', r4, r5, r6⟩ := r.row hown
              have hbnd : A + n * i.size + xs'.length ≤ loc.size := by
                have : n * i.size + xs'.length ≤ C * i.size := by
                  rw [hl, ← Nat.add_mul]
                  exact Nat.mul_le_mul_right _ hroom
                omega
              have hcell : ∀ j, j < xs'.length → (w.cell? ⟨loc.B, A + n * i.size + j, none⟩).isSome = true := fun j hj => by
                rw [cell_of r4]
                simp
                omega
              have hfro : ∀ j, j < xs'.length → w.frozen? ⟨loc.B, A + n * i.size + j, none⟩ = false := fun j hj => by
                simp only [World.frozen?, r4]
                rcases r6 with r6 | r6
                · simp only [Bool.and_eq_false_iff, decide_eq_false_iff_not]; omega
                · simp only [Bool.and_eq_false_iff, decide_eq_false_iff_not]; omega
              have hrun := run_append_room_src w t tx ty blk.elem i hu hi loc.B A n C x' m xs' src hroom hcell hfro
              have st := step_take h fr d5 h1 hg d1 d3 h2 d4 (A := A) h3 (by omega) k1
              rw [putRow_eq] at st
              refine ⟨_, _, _, hrun, ?_, st⟩
              exact .sl _ 0 _ A _ _ _ ⟨loc.B, loc.base + o, 0, loc.size, loc.esz, true⟩ (by simp [Ren.add]) (Nat.le_refl _) (by simp only; omega) (.inl (Nat.le_add_right _ _)) hroom (fun _ _ => by rw [Nat.add_sub_cancel_left]; exact hsp')
            · -- it moves
              have hrd : aread S ⟨b, o, some blk.cells.length⟩ (n * i.size) = some ((blk.cells.drop o).take (n * i.size)) := by
                unfold aread
                simp only [hg]
                rw [if_pos ⟨fun _ => ⟨d3, d4⟩, d4⟩]
              obtain ⟨olds', q1, q2, q3, q4⟩ := aread_run h hrd h1 h2 h3
              refine moved C _ olds' (by omega) q1 ?_
              exact run_firstCells_some w.drew i.size n _ n C olds' q2 (fun j u k => by rw [add_none]; exact q3 j u k)
          · cases ha
            subst hn0
            have hC0 : C0 = 0 := by
              rcases hz0 with hz0 | ⟨_, l0, hz1, hz2⟩
              · exact hz0.1
              · rw [hownall _ _ hz1] at hz2; cases hz2
            subst hC0
            have ho : (blk.cells.drop o).take (0 * i.size) = [] := by simp
            refine moved 0 A [] (by omega) (by rw [ho]; exact VRL.nil ρ) ?_
            cases A with
            | none => exact run_firstCells_none w.drew i.size 0 0 0
            | some a => exact run_firstCells_some w.drew i.size 0 a 0 0 [] (by simp) (fun j u k => by simp at k)
        rename_i hcond
        obtain ⟨d1, d2, d3, d4, d5, d6, d7⟩ := hcond
        cases hr
        subst d2
        subst d6
        have hm63 : ((n + m : Nat) : Int) ≤ 9223372036854775807 := by
          have : 3 * (n + m) + 2048 ≤ 281474976710656 := Nat.le_trans (Nat.le_mul_of_pos_right _ c2) d7
          omega
        have hownall : ∀ L loc, ρ b L = some loc → loc.own = true := fun L loc k => (h.blk b L loc blk k hg).own ▸ d1
        -- what moves
        have moved : ∀ (C : Nat) (s0 : Option Addr) (olds' : List Value), C < n + m → VRL ρ (blk.cells.drop o) olds' →
            (Builtin.firstCells i.size n (.slice s0 n C)).run P w.drew = .ok olds'.toArray w.drew →
            ∃ ρ' w' v', (Builtin.append_ #[t, tx] ty #[.slice s0 n C, x']).run P w = .ok v' w' ∧ VR ρ' (.slice (some ⟨b, o, some (blk.cells.length + xs.length)⟩) (n + m) (UNK + i.size)) v' ∧ Step P ρ S w ρ' (S.upd b { blk with cells := blk.cells ++ xs }) w' := by
          intro C s0 olds' hC hold hrd
          have hnc := nextcap_le (n + m) C hC
          have hfit2 : Builtin.nextslicecap (n + m) C * i.bytes ≤ 281474976710656 := by
            rw [hi2]
            exact Nat.le_trans (Nat.mul_le_mul_right _ hnc) d7
          have hrun := run_append_grow_src w t tx ty blk.elem i z hu hi hi3 s0 n C olds' hrd x' m xs' src hC hm63 hfit2
          have hgc := grownCap_ge w (n + m) C blk.elem
          have hw : Rel P ρ S w.drew := h.same rfl rfl
          have st := step_moved (w := w.drew) hw d5 hg d1 hownall (by omega : o ≤ blk.cells.length) hold k1 hpos (sp := (Builtin.zeroCells z.cells (grownCap w (n + m) C blk.elem - (n + m))).toList) (cells := ((olds' ++ xs').toArray ++ Builtin.zeroCells z.cells (grownCap w (n + m) C blk.elem - (n + m)))) (by simp) hsz
          refine ⟨_, _, _, hrun, ?_, st.world rfl rfl ⟨rfl, rfl, rfl⟩ ⟨rfl, rfl, rfl⟩⟩
          have hlo := hold.1
          rw [List.length_drop] at hlo
          refine .sl _ o _ 0 _ _ _ ⟨w.heap.size, -(o : Int), o, _, i.size, true⟩ (by simp [Ren.add]; rfl) (Nat.le_refl _) (by simp; omega) (.inl (Nat.le_add_right _ _)) hgc (fun _ _ => ?_)
          rw [Nat.add_sub_cancel_left]
          simp only [Array.size_append, List.size_toArray, List.length_append, zeroCells_size, c3, hl, Nat.zero_add, ← hlo]
          have e1 : blk.cells.length - o = n * i.size := by omega
          rw [e1, ← Nat.add_mul, ← Nat.add_mul]
          exact Nat.mul_le_mul_right _ (by omega)
        rcases hs.sl_inv with ⟨L', loc, A, C, ha, h1, h2, h3, _, hnC, hsp, rfl⟩ | ⟨L', A, C0, ha, hn0, hz0, rfl⟩
        · cases ha
          simp only at h1 h2 h3
          have r := h.blk b _ loc blk h1 hg
          have hown : loc.own = true := r.own ▸ d1
          have hesz : loc.esz = i.size := by
            have := (r.row hown).2.1
            rw [hsz] at this
            exact (Option.some.inj this).symm
          have hsp' := hsp hown (by omega)
          rw [show c - UNK = i.size by omega] at hsp'
          by_cases hroom : n + m ≤ C
          · -- in place
            obtain ⟨_, r2, r3, D, fr, r4, r5, r6⟩ := r.row hown
            have hbnd : A + n * i.size + xs'.length ≤ loc.size := by
              have : n * i.size + xs'.length ≤ C * i.size := by
                rw [hl, ← Nat.add_mul]
                exact Nat.mul_le_mul_right _ hroom
              omega
            have hcell : ∀ j, j < xs'.length → (w.cell? ⟨loc.B, A + n * i.size + j, none⟩).isSome = true := fun j hj => by
              rw [cell_of r4]
              simp
              omega
            have hfro : ∀ j, j < xs'.length → w.frozen? ⟨loc.B, A + n * i.size + j, none⟩ = false := fun j hj => by
              simp only [World.frozen?, r4]
              rcases r6 with r6 | r6
              · simp only [Bool.and_eq_false_iff, decide_eq_false_iff_not]; omega
              · simp only [Bool.and_eq_false_iff, decide_eq_false_iff_not]; omega
            have hrun := run_append_room_src w t tx ty blk.elem i hu hi loc.B A n C x' m xs' src hroom hcell hfro
            have st := step_place h d5 h1 hg d1 d3 (A := A + n * i.size) (by omega) (by omega) (by omega) k1 hpos
            rw [putRow_eq] at st
            refine ⟨_, _, _, hrun, ?_, st⟩
            exact .sl _ _ _ _ _ _ _ loc (by simp [Ren.add]) h2 h3 (.inl (Nat.le_add_right _ _)) hroom (fun _ _ => by rw [Nat.add_sub_cancel_left]; exact hsp')
          · -- it moves
            have hrd : aread S ⟨b, o, some blk.cells.length⟩ (n * i.size) = some (blk.cells.drop o) := by
              unfold aread
              simp only [hg]
              rw [if_pos ⟨fun _ => ⟨d3, by omega⟩, by omega⟩, List.take_of_length_le (by simp; omega)]
            obtain ⟨olds', q1, q2, q3, q4⟩ := aread_run h hrd h1 h2 h3
            refine moved C _ olds' (by omega) q1 ?_
            exact run_firstCells_some w.drew i.size n _ n C olds' q2 (fun j u k => by rw [add_none]; exact q3 j u k)
        · cases ha
          subst hn0
          have hC0 : C0 = 0 := by
            rcases hz0 with hz0 | ⟨_, l0, hz1, hz2⟩
            · exact hz0.1
            · rw [hownall _ _ hz1] at hz2; cases hz2
          subst hC0
          have ho : blk.cells.drop o = [] := List.drop_of_length_le (by omega)
          refine moved 0 A [] (by omega) (by rw [ho]; exact VRL.nil ρ) ?_
          cases A with
          | none => exact run_firstCells_none w.drew i.size 0 0 0
          | some a => exact run_firstCells_some w.drew i.size 0 a 0 0 [] (by simp) (fun j u k => by simp at k)
      · split at hr
        · cases hr
        rename_i hcU
        split at hr
        · -- an exact capacity, and there is room
          rename_i hroom
          split at hr
          case h_2 => cases hr
          rename_i S1 hwr
          cases hr
          rcases hs.sl_inv with ⟨L', loc, A, C, ha, h1, h2, h3, hcC, hnC, hsp, rfl⟩ | ⟨L', A, C0, ha, hn0, hz0, rfl⟩
          · cases ha
            simp only at h1 h2 h3
            obtain rfl : C = c := hcC.resolve_left hcU
            obtain ⟨st, hst, hcell, hfro⟩ := awrite_run h hwr h1 (by omega) (A := A + n * i.size) (by omega) k1
            have hrun := run_append_room_src w t tx ty elem i hu hi loc.B A n C x' m xs' src hroom hcell hfro
            exact ⟨_, _, _, hrun, .sl _ _ _ _ _ _ _ loc h1 h2 h3 (.inr rfl) hroom (fun _ e => absurd e hcU), st⟩
          · rcases hz0 with hz0 | hz0
            · omega
            · exact absurd hz0.1 hcU
        · rename_i hroom
          split at hr
          case h_2 => cases hr
          rename_i olds hold
          split at hr
          case isFalse => cases hr
          rename_i hcond
          obtain ⟨d1, d2, d3⟩ := hcond
          cases hr
          have hm63 : ((n + m : Nat) : Int) ≤ 9223372036854775807 := by
            have : 3 * (n + m) + 2048 ≤ 281474976710656 := Nat.le_trans (Nat.le_mul_of_pos_right _ c2) d1
            omega
          have finish : ∀ (C : Nat) (s0 : Option Addr) (olds' : List Value), C < n + m → VRL ρ olds olds' → olds'.length = n * i.size →
              (Builtin.firstCells i.size n (.slice s0 n C)).run P w.drew = .ok olds'.toArray w.drew →
              ∃ ρ' w' v', (Builtin.append_ #[t, tx] ty #[.slice s0 n C, x']).run P w = .ok v' w' ∧ VR ρ' (.slice (some ⟨S.next, 0, some (olds.length + xs.length)⟩) (n + m) (UNK + i.size)) v' ∧ Step P ρ S w ρ' (S.push ⟨olds ++ xs, elem, true, 0⟩) w' := by
            intro C s0 olds' hC hold' hln hrd
            have hnc := nextcap_le (n + m) C hC
            have hfit2 : Builtin.nextslicecap (n + m) C * i.bytes ≤ 281474976710656 := by
              rw [hi2]
              exact Nat.le_trans (Nat.mul_le_mul_right _ hnc) d1
            have hrun := run_append_grow_src w t tx ty elem i z hu hi hi3 s0 n C olds' hrd x' m xs' src hC hm63 hfit2
            have hgc := grownCap_ge w (n + m) C elem
            have hw : Rel P ρ S w.drew := h.same rfl rfl
            have st := step_push (fr := (0, 0)) (w := w.drew) hw (fun L => hf S.next L (Nat.le_refl _) (by simp)) (hold'.append k1) (sp := (Builtin.zeroCells z.cells (grownCap w (n + m) C elem - (n + m))).toList) (cells := ((olds' ++ xs').toArray ++ Builtin.zeroCells z.cells (grownCap w (n + m) C elem - (n + m)))) (elem := elem) (by simp) hsz (.inl rfl)
            rw [List.length_append] at st
            refine ⟨_, _, _, hrun, ?_, st.world rfl rfl ⟨rfl, rfl, rfl⟩ ⟨rfl, rfl, rfl⟩⟩
            refine .sl _ 0 _ 0 _ _ _ ⟨w.heap.size, 0, 0, _, i.size, true⟩ (by simp [Ren.add]; rfl) (Nat.le_refl _) (by simp) (.inl (Nat.le_add_right _ _)) hgc (fun _ _ => ?_)
            rw [Nat.add_sub_cancel_left]
            simp only [Array.size_append, List.size_toArray, List.length_append, zeroCells_size, c3, hl, Nat.zero_add, hln]
            rw [← Nat.add_mul, ← Nat.add_mul]
            exact Nat.mul_le_mul_right _ (by omega)
          rcases hs.sl_inv with ⟨L', loc, A, C, ha, h1, h2, h3, hcC, hnC, hsp, rfl⟩ | ⟨L', A, C0, ha, hn0, hz0, rfl⟩
          · cases ha
            simp only at h1 h2 h3
            obtain rfl : C = c := hcC.resolve_left hcU
            by_cases hn0 : n = 0
            · subst hn0
              rw [if_pos rfl] at hold
              cases hold
              refine finish C _ [] d2 (VRL.nil ρ) (by simp) ?_
              exact run_firstCells_some w.drew i.size 0 _ 0 C [] (by simp) (fun j u k => by simp at k)
            · rw [if_neg hn0] at hold
              obtain ⟨olds', q1, q2, q3, q4⟩ := aread_run h hold h1 h2 h3
              refine finish C _ olds' d2 q1 q2 ?_
              exact run_firstCells_some w.drew i.size n _ n C olds' q2 (fun j u k => by rw [add_none]; exact q3 j u k)
          · subst hn0
            rw [if_pos rfl] at hold
            cases hold
            have hC0 : C0 = 0 := by
              rcases hz0 with hz0 | hz0
              · exact hz0.1
              · exact absurd hz0.1 hcU
            subst hC0
            refine finish 0 A [] (by omega) (VRL.nil ρ) (by simp) ?_
            cases A with
            | none => exact run_firstCells_none w.drew i.size 0 0 0
            | some a => exact run_firstCells_some w.drew i.size 0 a 0 0 [] (by simp) (fun j u k => by simp at k)
  · cases hr
end
end Go.Proofs.YtdmbgbennlnpcaaDoorAbs
namespace Go.Proofs.YtdmbgbennlnpcaaDoorAbs
set_option linter.unusedVariables false
set_option linter.unusedSimpArgs false
def amakeSlice (P : Program) (S : St) (t : TypeId) (l c : Value) : Option (Value × St) :=
  match P.underlying t, l, c with
  | some (.slice elem), .int _ l, .int _ c =>
    match asize P elem, abytes P elem, azero P elem with
    | some size, some bytes, some z =>
      if scalar z = true ∧ 0 < size ∧ 0 < bytes ∧ z.cells.size = size ∧ 0 ≤ l ∧ l ≤ c ∧ bytes * c ≤ 281474976710656 then
        some (.slice (some ⟨S.next, 0, some (c.toNat * size)⟩) l.toNat c.toNat, S.push ⟨((Array.range (c.toNat * size)).map (z.cells[· % z.cells.size]!)).toList, elem, true, 0⟩)
      else none
    | _, _, _ => none
  | _, _, _ => none
def strHead (s : ByteArray) (k : Nat) : List Value := ((s.extract 0 k).data.map fun b => Value.int .u8 b.toNat).toList
def acopy (P : Program) (S : St) (dT : TypeId) (dst src : Value) : Option (Value × St) :=
  match P.underlying dT, dst with
  | some (.slice elem), .slice (some ⟨b, o, some L⟩) n _ =>
    match asize P elem with
    | some size =>
      match src with
      | .slice (some ⟨b', o', s'⟩) m _ =>
        if n = 0 ∨ m = 0 then some (goInt 0, S) else
          match aread S ⟨b', o', s'⟩ (Nat.min m n * size) with
          | some xs => (awrite S ⟨b, o, some L⟩ xs).map fun S' => (goInt (Nat.min m n), S')
          | none => none
      | .slice none 0 0 => some (goInt 0, S)
      | .string s => if n = 0 ∨ size ≠ 1 then none else
          (awrite S ⟨b, o, some L⟩ (strHead s (Nat.min s.size n))).map fun S' => (goInt (Nat.min s.size n), S')
      | _ => none
    | none => none
  | _, _ => none
def aclear (P : Program) (S : St) (t : TypeId) (x : Value) : Option (Value × St) :=
  match P.underlying t, x with
  | some (.slice elem), .slice (some ⟨b, o, some L⟩) n _ =>
    if n = 0 then some (.tuple #[], S) else
      match azero P elem with
      | some z => if scalar z = true ∧ 0 < z.cells.size then (awrite S ⟨b, o, some L⟩ (Builtin.zeroCells z.cells n).toList).map fun S' => (.tuple #[], S') else none
      | none => none
  | some (.slice _), .slice none 0 0 => some (.tuple #[], S)
  | _, _ => none
def isU8 (P : Program) (e : TypeId) : Bool := P.underlying e matches some (.int .u8)
def asInts : List Value → Option (List Int)
  | [] => some []
  | .int .u8 n :: r => (asInts r).map (n :: ·)
  | _ => none
def aconvert (P : Program) (S : St) (src dst : TypeId) (x : Value) : Option (Value × St) :=
  match x, P.underlying src, P.underlying dst with
  | .string s, some .string, some (.slice e) => if isU8 P e = true ∧ (asize P e) = some 1 then some (.slice (some ⟨S.next, 0, some s.size⟩) s.size (UNK + 1), S.push ⟨byteCells s, e, true, 0⟩) else none
  | .slice (some ⟨b, o, s⟩) n _, some (.slice e), some .string =>
    if isU8 P e = true then
      if n = 0 then some (.string (strOfNums []), S) else
        match aread S ⟨b, o, s⟩ n with
        | some cs => (asInts cs).map fun ns => (.string (strOfNums ns), S)
        | none => none
    else none
  | .slice (some ⟨b, o, s⟩) n c, some (.slice _), some (.slice e) =>
    if isU8 P e = true ∧ src = dst ∧ 0 < n then
      match S.get b with
      | some blk => if blk.own = true ∧ b < S.next then some (.slice (some ⟨b, o, s⟩) n c, S.upd b blk) else none
      | none => none
    else none
  | _, _, _ => none
def kSlice (P : Program) (t : TypeId) : Bool := match P.underlying t with | some (.slice _) => true | _ => false
def kPtr (P : Program) (t : TypeId) : Bool := match P.underlying t with | some (.pointer _) => true | _ => false
def kFunc (P : Program) (t : TypeId) : Bool := match P.underlying t with | some (.func _ _ _) => true | _ => false
def kIface (P : Program) (t : TypeId) : Bool := match P.underlying t with | some (.interface _) => true | _ => false
theorem kSlice_eq {P : Program} {t : TypeId} (h : kSlice P t = true) : ∃ e, P.underlying t = some (.slice e) := by
  unfold kSlice at h
  split at h
  · exact ⟨_, by assumption⟩
  · cases h
theorem kPtr_eq {P : Program} {t : TypeId} (h : kPtr P t = true) : ∃ e, P.underlying t = some (.pointer e) := by
  unfold kPtr at h
  split at h
  · exact ⟨_, by assumption⟩
  · cases h
theorem kFunc_eq {P : Program} {t : TypeId} (h : kFunc P t = true) : ∃ a b c, P.underlying t = some (.func a b c) := by
  unfold kFunc at h
  split at h
  · exact ⟨_, _, _, by assumption⟩
  · cases h
theorem kIface_eq {P : Program} {t : TypeId} (h : kIface P t = true) : ∃ a, P.underlying t = some (.interface a) := by
  unfold kIface at h
  split at h
  · exact ⟨_, by assumption⟩
  · cases h
def anil (P : Program) (t : TypeId) : Value → Value → Option Bool
  | .slice (some _) n c, .slice none 0 0 => if kSlice P t = true ∧ (0 < n ∨ (0 < c ∧ c < UNK)) then some false else none
  | .slice none 0 0, .slice (some _) n c => if kSlice P t = true ∧ (0 < n ∨ (0 < c ∧ c < UNK)) then some false else none
  | .pointer (some _), .pointer none => if kPtr P t = true then some false else none
  | .pointer none, .pointer (some _) => if kPtr P t = true then some false else none
  | .func _ _ _, .nilFunc => if kFunc P t = true then some false else none
  | .nilFunc, .func _ _ _ => if kFunc P t = true then some false else none
  | .iface _ _, .nilIface => if kIface P t = true then some false else none
  | .nilIface, .iface _ _ => if kIface P t = true then some false else none
  | _, _ => none
def abinOp (P : Program) (op : BinOp) (t : TypeId) (x y : Value) : Option Value :=
  match op with
  | .eql => (anil P t x y).map fun b => .bool b
  | .neq => (anil P t x y).map fun b => .bool !b
  | _ => none
def atypeAssert (P : Program) (asserted : TypeId) (ok : Bool) : Value → Option Value
  | .iface t v =>
    match P.underlying asserted with
    | some (.interface _) => none
    | none => none
    | some _ =>
      if t = asserted then some (if ok then .tuple #[v, .bool true] else v)
      else if ok then
        match azero P asserted with
        | some z => if scalar z = true then some (.tuple #[z, .bool false]) else none
        | none => none
      else none
  | _ => none
section
variable {P : Program} {ρ : Ren} {S : St} {w : World}
theorem sim_makeSlice {t : TypeId} {l l' c c' v : Value} {S' : St} (h : Rel P ρ S w) (hl : VR ρ l l') (hc : VR ρ c c') (hf : ∀ L, ρ S.next L = none) (hr : amakeSlice P S t l c = some (v, S')) :
    ∃ ρ' w' v', (Instr.makeSlice t l' c').run P w = .ok v' w' ∧ VR ρ' v v' ∧ Step P ρ S w ρ' S' w' := by
  unfold amakeSlice at hr
  split at hr
  case h_2 => cases hr
  rename_i elem k1 l k2 c hu
  obtain rfl := hl.scalar_eq rfl
  obtain rfl := hc.scalar_eq rfl
  split at hr
  case h_2 => cases hr
  rename_i size bytes z hs hb hz
  split at hr
  case isFalse => cases hr
  rename_i hcond
  obtain ⟨d1, d2, d3, d4, d5, d6, d7⟩ := hcond
  cases hr
  obtain ⟨i, hi, rfl⟩ := asize_info hs
  have hib : i.bytes = bytes := by simpa [abytes, hi] using hb
  subst hib
  have hcb : c ≤ 281474976710656 := by
    have e : (1 : Int) * c ≤ i.bytes * c := Int.mul_le_mul_of_nonneg_right (by omega) (by omega)
    omega
  have w1 : IntKind.i64.wrap l = l := wrap_small l d5 (by omega)
  have w2 : IntKind.i64.wrap c = c := wrap_small c (by omega) (by omega)
  have hc1 : ¬ (i.bytes : Int) * c > 281474976710656 := by omega
  have hrep := scalar_rep (ρ := ρ) d1 (by rw [d4]; exact d2) (c.toNat * i.size)
  have hzs : (zeroValue elem).run P = fun w => .ok z w := funext fun w => run_zero hz w
  have hw0 : ∀ n : Nat, (askRoom n : Sem Unit).run P w = .ok () w := fun n => by unfold askRoom; split <;> simp [mark, Sem.run]
  have st := step_push (fr := (0, 0)) h hf hrep (sp := []) (cells := (Array.range (c.toNat * i.size)).map (z.cells[· % z.cells.size]!)) (elem := elem) (by simp) hs (.inl rfl)
  refine ⟨_, _, .slice (some ⟨w.heap.size, 0, none⟩) l.toNat c.toNat, ?_, ?_, st⟩
  · have hn1 : ¬ c < 0 := by omega
    have hn2 : ¬ l < 0 := by omega
    have hn3 : ¬ l > c := by omega
    have hty : (typeInfo elem).run P w = .ok i w := by simp [typeInfo, hi, Sem.run_pure]
    simp only [Instr.makeSlice, Sem.run_bind, run_underlying hu, Result.andThen_ok, asInt, asIntOf, Sem.run_pure, hty, w1, w2]
    simp only [hn1, hn2, hn3, decide_false, Bool.or_false, Bool.false_or, Bool.or_self, Bool.false_eq_true, if_false]
    simp only [show (2 : Int) ^ 48 = 281474976710656 from rfl, hc1, decide_false, Bool.false_eq_true, if_false, Sem.run_bind, Sem.run_pure, Result.andThen_ok, hw0, run_size hs]
    by_cases h0 : c.toNat * i.size = 0
    · simp only [h0, if_true, Sem.run_pure, Result.andThen_ok]
      have e0 : ∀ f : Nat → Value, (Array.range 0).map f = #[] := fun f => Array.ext' (by simp)
      simp [newRow, newObj, Sem.run, e0]
    · simp only [h0, if_false, Sem.run_bind, run_zero hz, Sem.run_pure, Result.andThen_ok]
      simp [newRow, newObj, Sem.run]
  · refine .sl _ 0 _ 0 _ _ _ ⟨w.heap.size, 0, 0, _, i.size, true⟩ (by simp [Ren.add]; rfl) (Nat.le_refl _) (by simp) (.inr rfl) (by omega) (fun _ hU => ?_)
    simp [UNK] at hU
    omega
theorem sim_copy {dT sT ty : TypeId} {d d' s s' v : Value} {S' : St} (h : Rel P ρ S w) (hd : VR ρ d d') (hs : VR ρ s s') (hr : acopy P S dT d s = some (v, S')) :
    ∃ w', (Builtin.copy_ #[dT, sT] ty #[d', s']).run P w = .ok v w' ∧ scalar v = true ∧ Step P ρ S w ρ S' w' := by
  unfold acopy at hr
  split at hr
  · rename_i elem b o L n c hu
    split at hr
    case h_2 => cases hr
    rename_i size hsz
    have l0 : ∀ (a : Addr) (w : World), (loadCells a 0).run P w = .ok #[] w := aread_none_run
    split at hr
    · rename_i b' o' t m c'
      split at hr
      · rename_i h0
        cases hr
        have hm0 : Nat.min m n = 0 := by rcases h0 with rfl | rfl <;> simp [Nat.min_def]
        refine ⟨w, ?_, rfl, Step.refl h⟩
        have key : ∀ (A : Option Addr) (k : Nat), ∃ q, (Builtin.firstCells size 0 (.slice A m k)).run P w = .ok q w ∧ q = #[] := by
          intro A k
          cases A with
          | none => exact ⟨_, run_firstCells_none w size 0 m k, rfl⟩
          | some a => exact ⟨_, run_firstCells_some w size 0 a m k [] (by simp) (fun j u q => by simp at q), rfl⟩
        have hsrc : ∃ A k, s' = .slice A m k := by
          rcases hs.sl_inv with ⟨L, loc, A, C, _, _, _, _, _, _, _, rfl⟩ | ⟨L, A, C, _, hm, _, rfl⟩
          · exact ⟨_, _, rfl⟩
          · exact ⟨A, C, by rw [hm]⟩
        obtain ⟨A, k, rfl⟩ := hsrc
        obtain ⟨q, hq, rfl⟩ := key A k
        rcases hd.sl_inv with ⟨L, loc, D, C, _, _, _, _, _, _, _, rfl⟩ | ⟨L, D, CD, _, hn, _, rfl⟩
        · simp [Builtin.copy_, run_underlying hu, Builtin.lenOf, hm0, run_size hsz, hq, storeCells, Sem.run_pure]
        · subst hn
          cases D <;> simp [Builtin.copy_, run_underlying hu, Builtin.lenOf, hm0, run_size hsz, hq, storeCells, Sem.run_pure]
      · rename_i h0
        split at hr
        case h_2 => cases hr
        rename_i xs hrd
        cases hwr : awrite S ⟨b, o, some L⟩ xs with
        | none => simp [hwr] at hr
        | some S1 =>
          simp only [hwr, Option.map_some, Option.some.injEq, Prod.mk.injEq] at hr
          obtain ⟨rfl, rfl⟩ := hr
          rcases hs.sl_inv with ⟨L2, loc2, A2, C2, ha2, g1, g2, g3, _, _, _, rfl⟩ | ⟨_, _, _, _, hm, _⟩
          · rcases hd.sl_inv with ⟨L1, loc1, A1, C1, ha1, f1, f2, f3, _, _, _, rfl⟩ | ⟨_, _, _, _, hn, _⟩
            · cases ha2
              cases ha1
              obtain ⟨xs', k1, k2, k3, k4⟩ := aread_run h hrd g1 g2 g3
              obtain ⟨st, hst, _⟩ := awrite_run h hwr f1 f2 f3 k1
              refine ⟨_, ?_, rfl, st⟩
              have hfc := run_firstCells_some (P := P) w size (Nat.min m n) ⟨loc2.B, A2, none⟩ m C2 xs' k2 (fun j u k => by rw [add_none]; exact k3 j u k)
              simp only [Builtin.copy_, Sem.run_bind, run_underlying hu, Result.andThen_ok, Builtin.lenOf, Sem.run_pure, run_size hsz, hfc, List.getElem?_toArray, List.getElem?_cons_zero, List.getElem?_cons_succ]
              simp [hst, Sem.run_pure]
            · exact absurd (Or.inl hn) h0
          · exact absurd (Or.inr hm) h0
    · cases hr
      obtain rfl := hs.scalar_eq rfl
      refine ⟨w, ?_, rfl, Step.refl h⟩
      have hq := run_firstCells_none (P := P) w size 0 0 0
      have hm0 : Nat.min 0 n = 0 := by simp [Nat.min_def]
      rcases hd.sl_inv with ⟨L, loc, D, C, _, _, _, _, _, _, _, rfl⟩ | ⟨L, D, CD, _, hn, _, rfl⟩
      · simp [Builtin.copy_, run_underlying hu, Builtin.lenOf, hm0, run_size hsz, hq, storeCells, Sem.run_pure]
      · subst hn
        cases D <;> simp [Builtin.copy_, run_underlying hu, Builtin.lenOf, hm0, run_size hsz, hq, storeCells, Sem.run_pure]
    · rename_i bs
      split at hr
      case isTrue => cases hr
      rename_i hcond
      have h0 : n ≠ 0 := fun q => hcond (.inl q)
      have h1 : size = 1 := Classical.byContradiction fun q => hcond (.inr q)
      obtain rfl := hs.scalar_eq rfl
      cases hwr : awrite S ⟨b, o, some L⟩ (strHead bs (Nat.min bs.size n)) with
      | none => simp [hwr] at hr
      | some S1 =>
        simp only [hwr, Option.map_some, Option.some.injEq, Prod.mk.injEq] at hr
        obtain ⟨rfl, rfl⟩ := hr
        rcases hd.sl_inv with ⟨L1, loc1, A1, C1, ha1, f1, f2, f3, _, _, _, rfl⟩ | ⟨_, _, _, _, hn, _⟩
        · cases ha1
          obtain ⟨st, hst, _⟩ := awrite_run h hwr f1 f2 f3 (VRL.refl fun v hv => by unfold strHead at hv; rw [Array.toList_map] at hv; obtain ⟨_, _, rfl⟩ := List.mem_map.1 hv; exact .leaf _ rfl)
          refine ⟨_, ?_, rfl, st⟩
          simp only [Builtin.copy_, Sem.run_bind, run_underlying hu, Result.andThen_ok, Builtin.lenOf, Sem.run_pure, run_size hsz, Builtin.firstCells, List.getElem?_toArray, List.getElem?_cons_zero, List.getElem?_cons_succ]
          simp only [Option.some.injEq] at *
          unfold strHead at hst
          simp only [Sem.run_bind, hst, Result.andThen_ok, Sem.run_pure]
          rfl
        · exact absurd hn h0
    · cases hr
  · cases hr
theorem sim_clear {t ty : TypeId} {x x' v : Value} {S' : St} (h : Rel P ρ S w) (hx : VR ρ x x') (hr : aclear P S t x = some (v, S')) :
    ∃ w', (Builtin.clear_ #[t] ty #[x']).run P w = .ok v w' ∧ scalar v = true ∧ Step P ρ S w ρ S' w' := by
  unfold aclear at hr
  split at hr
  · rename_i elem b o L n c hu
    split at hr
    · rename_i h0
      cases hr
      subst h0
      refine ⟨w, ?_, by simp [scalar], Step.refl h⟩
      rcases hx.sl_inv with ⟨L1, loc1, A1, C1, ha1, f1, f2, f3, _, _, _, rfl⟩ | ⟨_, A, CA, _, _, _, rfl⟩
      · simp [Builtin.clear_, run_underlying hu, Sem.run_pure]
      · cases A <;> simp [Builtin.clear_, run_underlying hu, Sem.run_pure]
    · rename_i h0
      split at hr
      case h_2 => cases hr
      rename_i z hz
      split at hr
      case isFalse => cases hr
      rename_i hc
      cases hwr : awrite S ⟨b, o, some L⟩ (Builtin.zeroCells z.cells n).toList with
      | none => simp only [hwr, Option.map_none] at hr; cases hr
      | some S1 =>
        simp only [hwr, Option.map_some, Option.some.injEq, Prod.mk.injEq] at hr
        obtain ⟨rfl, rfl⟩ := hr
        have hrep : VRL ρ (Builtin.zeroCells z.cells n).toList (Builtin.zeroCells z.cells n).toList := by
          have := scalar_rep (ρ := ρ) hc.1 hc.2 (n * z.cells.size)
          exact this
        rcases hx.sl_inv with ⟨L1, loc1, A1, C1, ha1, f1, f2, f3, _, _, _, rfl⟩ | ⟨_, _, _, _, hn, _⟩
        · cases ha1
          obtain ⟨st, hst, _⟩ := awrite_run h hwr f1 f2 f3 hrep
          refine ⟨_, ?_, by simp [scalar], st⟩
          cases n with
          | zero => exact absurd rfl h0
          | succ n => simp [Builtin.clear_, run_underlying hu, run_zero hz, hst, Sem.run_pure]
        · exact absurd hn h0
  · rename_i elem hu
    cases hr
    obtain rfl := hx.scalar_eq rfl
    exact ⟨w, by simp [Builtin.clear_, run_underlying hu, Sem.run_pure], by simp [scalar], Step.refl h⟩
  · cases hr
theorem asInts_eq : ∀ (cs : List Value) (ns : List Int), asInts cs = some ns → cs = ns.map (Value.int .u8)
  | [], ns, h => by simp [asInts] at h; subst h; rfl
  | c :: cs, ns, h => by
    unfold asInts at h
    split at h
    · rename_i hh
      cases hh
    · rename_i n r hh
      cases hh
      cases hr : asInts cs with
      | none => simp [hr] at h
      | some ms =>
        simp only [hr, Option.map_some, Option.some.injEq] at h
        subst h
        rw [asInts_eq cs ms hr]
        rfl
    · cases h
theorem vrl_ints {ns : List Int} {cs' : List Value} (h : VRL ρ (ns.map (Value.int .u8)) cs') : cs' = ns.map (Value.int .u8) := by
  refine List.ext_getElem h.1.symm fun i h1 h2 => ?_
  have e := h.2 i _ _ (List.getElem?_eq_getElem h2) (List.getElem?_eq_getElem h1)
  rw [e.leaf_eq (by simp [leaf])]
theorem push_modify {α : Type} (xs : Array α) (a : α) (f : α → α) : (xs.push a).modify xs.size f = xs.push (f a) := by
  refine Array.ext (by simp) fun i h1 h2 => ?_
  simp only [Array.size_push] at h2
  rw [Array.getElem_modify]
  by_cases e : xs.size = i
  · subst e; simp
  · rw [if_neg e]
    have : i < xs.size := by omega
    simp [Array.getElem_push_lt this]
theorem sim_convert {src dst : TypeId} {x x' v : Value} {S' : St} (h : Rel P ρ S w) (hx : VR ρ x x') (hf : Fresh ρ S S') (hr : aconvert P S src dst x = some (v, S')) :
    ∃ ρ' w' v', (convert src dst x').run P w = .ok v' w' ∧ VR ρ' v v' ∧ Step P ρ S w ρ' S' w' := by
  unfold aconvert at hr
  split at hr
  · rename_i s e hs hd
    split at hr
    case isFalse => cases hr
    rename_i hc
    cases hr
    obtain rfl := hx.scalar_eq rfl
    have hu8 : P.underlying e = some (.int .u8) := by
      have := hc.1
      unfold isU8 at this
      split at this <;> simp_all
    obtain ⟨q, hq⟩ : ∃ q, q = (Question.appendCap s.size 0 e).cut (w.tape w.drawn (.appendCap s.size 0 e)) := ⟨_, rfl⟩
    have hge : s.size ≤ q := by rw [hq]; exact grownCap_ge w s.size 0 e
    have hbl : VRL ρ (byteCells s) (byteCells s) := VRL.refl fun v hv => by
      unfold byteCells at hv
      obtain ⟨b, _, rfl⟩ := List.mem_map.1 hv
      exact .leaf _ rfl
    have hw : Rel P ρ S w.drew := h.same rfl rfl
    obtain ⟨cells, hcells⟩ : ∃ cells, cells = (s.data.map fun b => Value.int .u8 b.toNat) ++ Array.replicate (q - s.size) (.int .u8 0) := ⟨_, rfl⟩
    have hcl : cells.toList = byteCells s ++ List.replicate (q - s.size) (.int .u8 0) := by rw [hcells]; simp [byteCells]
    have hcs : cells.size = q := by
      rw [← Array.length_toList, hcl, List.length_append, byteCells_length, List.length_replicate]
      omega
    have st := step_push (fr := (cells.size, cells.size + 1)) (w := w.drew) hw (fun L => hf S.next L (Nat.le_refl _) (by simp)) hbl (sp := List.replicate (q - s.size) (.int .u8 0)) (cells := cells) hcl hc.2 (.inr (Nat.le_refl _))
    rw [byteCells_length] at st
    refine ⟨_, _, .slice (some ⟨w.heap.size, 0, none⟩) s.size q, ?_, ?_, st.world rfl rfl ⟨rfl, rfl, rfl⟩ ⟨rfl, rfl, rfl⟩⟩
    · simp only [convert, Sem.run_bind, run_underlying hs, run_underlying hd, Result.andThen_ok, run_underlying hu8, Conv.stringToBytes]
      simp only [choose, Sem.run, Question.forced, Bool.false_eq_true, if_false, ← hq, Result.andThen_ok, newRow, newObj, Sem.run_bind, Sem.run_pure, ← hcells]
      simp only [markStringish, shape, freeze, Sem.run_bind, Sem.run, World.shape?, Array.getElem?_push, if_true, Result.andThen_ok, World.freeze, Sem.run_pure]
      simp only [show ¬ (1 : Nat) = 0 by omega, if_false, push_modify, World.drew]
      simp
    · exact .sl _ 0 _ 0 _ _ _ ⟨w.heap.size, 0, 0, _, 1, true⟩ (by simp [Ren.add]; rfl) (Nat.le_refl _) (by simp) (.inl (Nat.le_add_right _ _)) hge (fun _ _ => by rw [Nat.add_sub_cancel_left]; simp only; omega)
  · rename_i b o s n c e hs hd
    split at hr
    case isFalse => cases hr
    rename_i hc
    have hu8 : P.underlying e = some (.int .u8) := by
      unfold isU8 at hc
      split at hc <;> simp_all
    split at hr
    · rename_i h0
      cases hr
      subst h0
      refine ⟨ρ, w, _, ?_, .leaf _ rfl, Step.refl h⟩
      rcases hx.sl_inv with ⟨L1, loc1, A1, C1, ha1, f1, f2, f3, _, _, _, rfl⟩ | ⟨_, A, CA, _, _, _, rfl⟩
      · exact run_convert_bytes_arg w src e hs hu8 loc1.B A1 0 C1 [] rfl (fun i hi => absurd hi (Nat.not_lt_zero i)) dst hd
      · cases A with
        | none => exact run_convert_bytes_nil w src e hs hu8 0 CA dst hd
        | some a =>
          rw [run_convert_bytes_string w src dst e _ 0 CA hs hu8 hd, run_bytesToString w a 0 CA [] (by simpa using aread_none_run a w)]
          rfl
    · rename_i h0
      split at hr
      case h_2 => cases hr
      rename_i cs hrd
      cases hi : asInts cs with
      | none => simp [hi] at hr
      | some ns =>
        simp only [hi, Option.map_some, Option.some.injEq, Prod.mk.injEq] at hr
        obtain ⟨rfl, rfl⟩ := hr
        have hcs := asInts_eq cs ns hi
        subst hcs
        rcases hx.sl_inv with ⟨L1, loc1, A1, C1, ha1, f1, f2, f3, _, _, _, rfl⟩ | ⟨_, _, _, _, hn, _⟩
        · cases ha1
          obtain ⟨cs', k1, k2, k3, k4⟩ := aread_run h hrd f1 f2 f3
          obtain rfl := vrl_ints k1
          refine ⟨ρ, w, _, ?_, .leaf _ rfl, Step.refl h⟩
          refine run_convert_bytes_arg w src e hs hu8 loc1.B A1 n C1 ns (by simpa using k2) (fun i hi => ?_) dst hd
          have hl : i < ns.length := by have := k2; simp at this; omega
          refine k3 i _ ?_
          rw [List.getElem?_map, List.getElem?_eq_getElem hl]
          simp [List.getD, hl]
        · exact absurd hn h0
  · rename_i b o s n c e0 e hs hd
    split at hr
    case isFalse => cases hr
    rename_i hc
    obtain ⟨hu, rfl, hn⟩ := hc
    obtain rfl : e0 = e := by rw [hs] at hd; cases hd; rfl
    split at hr
    case h_2 => cases hr
    rename_i blk hg
    split at hr
    case isFalse => cases hr
    rename_i hown
    cases hr
    have hu8 : P.underlying e0 = some (.int .u8) := by
      unfold isU8 at hu
      split at hu <;> simp_all
    rcases hx.sl_inv with ⟨L1, loc1, A1, C1, ha1, f1, f2, f3, _, _, _, rfl⟩ | ⟨_, _, _, _, hn0, _⟩
    · cases ha1
      have r := h.blk _ _ _ _ f1 hg
      obtain ⟨_, _, _, C, fr, r4, r5, r6⟩ := r.row (r.own ▸ hown.1)
      refine ⟨ρ, _, _, ?_, hx, step_mark h hown.2 f1 hg hown.1⟩
      simp only [convert, Sem.run_bind, run_underlying hs, Result.andThen_ok, run_underlying hu8, beq_self_eq_true]
      simp only [markStringish, shape, freeze, Sem.run_bind, Sem.run, World.shape?, r4, Result.andThen_ok, Sem.run_pure, r5]
    · omega
  · cases hr
theorem sim_typeAssert {xT asserted : TypeId} {ok : Bool} {x x' v : Value} (hx : VR ρ x x') (hr : atypeAssert P asserted ok x = some v) : ∃ v', (Instr.typeAssert x' xT asserted ok).run P w = .ok v' w ∧ VR ρ v v' := by
  unfold atypeAssert at hr
  split at hr
  case h_2 => cases hr
  rename_i t u
  obtain ⟨u', rfl, hu'⟩ := hx.iface_inv
  cases hu : P.underlying asserted with
  | none => simp [hu] at hr
  | some d =>
    by_cases ht : t = asserted
    · subst ht
      cases d <;> simp [hu] at hr <;> subst hr <;> cases ok <;>
        first
        | exact ⟨u', by simp [Instr.typeAssert, run_underlying hu, Sem.run_pure], hu'⟩
        | exact ⟨.tuple #[u', .bool true], by simp [Instr.typeAssert, run_underlying hu, Sem.run_pure], VR.tuple' (VRL.cons hu' (VRL.cons (.leaf _ rfl) (VRL.nil ρ)))⟩
    · cases ok with
      | false => cases d <;> simp [hu, ht] at hr
      | true =>
        cases hz : azero P asserted with
        | none => cases d <;> simp [hu, ht, hz] at hr
        | some z =>
          cases d <;> simp [hu, ht, hz] at hr <;> (obtain ⟨hs, rfl⟩ := hr; exact ⟨.tuple #[z, .bool false], by simp [Instr.typeAssert, run_underlying hu, ht, run_zero hz, Sem.run_pure], VR.tuple' (VRL.cons (VR.scalar hs) (VRL.cons (.leaf _ rfl) (VRL.nil ρ)))⟩)
theorem equal_run (t : TypeId) (x y : Value) : Op.equal t x y = Op.equalIn (9999 + 1) t x y := rfl
theorem sim_nil {t : TypeId} {x x' y y' : Value} {b : Bool} (hx : VR ρ x x') (hy : VR ρ y y') (hr : anil P t x y = some b) : (Op.equal t x' y').run P w = .ok b w := by
  unfold anil at hr
  split at hr
  · rename_i a n c
    split at hr
    case isFalse => cases hr
    rename_i hc
    cases hr
    obtain rfl := hy.scalar_eq rfl
    have hu := kSlice_eq hc.1
    obtain ⟨e, hu⟩ := hu
    rcases hx.sl_inv with ⟨L1, loc1, A1, C1, ha1, f1, f2, f3, _, _, _, rfl⟩ | ⟨_, A, CA, _, hn, hz, rfl⟩
    · rw [equal_run, Op.equalIn]
      simp [run_underlying hu, Sem.run_pure]
    · have hz2 := hc.2
      rcases hz with ⟨_, z⟩ | ⟨z, _⟩ <;> omega
  · rename_i a n c
    split at hr
    case isFalse => cases hr
    rename_i hc
    cases hr
    obtain rfl := hx.scalar_eq rfl
    have hu := kSlice_eq hc.1
    obtain ⟨e, hu⟩ := hu
    rcases hy.sl_inv with ⟨L1, loc1, A1, C1, ha1, f1, f2, f3, _, _, _, rfl⟩ | ⟨_, A, CA, _, hn, hz, rfl⟩
    · rw [equal_run, Op.equalIn]
      simp [run_underlying hu, Sem.run_pure]
    · have hz2 := hc.2
      rcases hz with ⟨_, z⟩ | ⟨z, _⟩ <;> omega
  · rename_i a
    split at hr
    case isFalse => cases hr
    rename_i hc
    cases hr
    obtain rfl := hy.scalar_eq rfl
    have hu := kPtr_eq hc
    obtain ⟨e, hu⟩ := hu
    obtain ⟨L, loc, A, ha, h1, h2, h3, rfl⟩ := hx.ptr_inv
    rw [equal_run, Op.equalIn]
    simp [run_underlying hu, Sem.run_pure]
  · rename_i a
    split at hr
    case isFalse => cases hr
    rename_i hc
    cases hr
    obtain rfl := hx.scalar_eq rfl
    have hu := kPtr_eq hc
    obtain ⟨e, hu⟩ := hu
    obtain ⟨L, loc, A, ha, h1, h2, h3, rfl⟩ := hy.ptr_inv
    rw [equal_run, Op.equalIn]
    simp [run_underlying hu, Sem.run_pure]
  · split at hr
    case isFalse => cases hr
    rename_i hc
    cases hr
    obtain rfl := hy.scalar_eq rfl
    have hu := kFunc_eq hc
    obtain ⟨_, _, _, hu⟩ := hu
    obtain ⟨f2, c2, rfl, _, _⟩ := hx.func_inv
    rw [equal_run, Op.equalIn]
    simp [run_underlying hu, Sem.run_pure]
  · split at hr
    case isFalse => cases hr
    rename_i hc
    cases hr
    obtain rfl := hx.scalar_eq rfl
    have hu := kFunc_eq hc
    obtain ⟨_, _, _, hu⟩ := hu
    obtain ⟨f2, c2, rfl, _, _⟩ := hy.func_inv
    rw [equal_run, Op.equalIn]
    simp [run_underlying hu, Sem.run_pure]
  · split at hr
    case isFalse => cases hr
    rename_i hc
    cases hr
    obtain rfl := hy.scalar_eq rfl
    have hu := kIface_eq hc
    obtain ⟨_, hu⟩ := hu
    obtain ⟨u, rfl, _⟩ := hx.iface_inv
    rw [equal_run, Op.equalIn]
    simp [run_underlying hu, Sem.run_pure]
  · split at hr
    case isFalse => cases hr
    rename_i hc
    cases hr
    obtain rfl := hx.scalar_eq rfl
    have hu := kIface_eq hc
    obtain ⟨_, hu⟩ := hu
    obtain ⟨u, rfl, _⟩ := hy.iface_inv
    rw [equal_run, Op.equalIn]
    simp [run_underlying hu, Sem.run_pure]
  · cases hr
end
end Go.Proofs.YtdmbgbennlnpcaaDoorAbs
namespace Go.Proofs.YtdmbgbennlnpcaaDoorAbs
set_option linter.unusedVariables false
set_option linter.unusedSimpArgs false
def abuiltin (P : Program) (S : St) (b : Builtin) (ts : List TypeId) (xs : List Value) : Option (Value × St) :=
  match b, ts, xs with
  | .len, [t], [.slice _ n _] => if kSlice P t = true then some (goInt n, S) else none
  | .cap, [t], [.slice _ _ c] => if kSlice P t = true ∧ c < UNK then some (goInt c, S) else none
  | .append, [t, tx], [s, x] => aappend P S t tx s x
  | .copy, [t, _], [d, s] => acopy P S t d s
  | .clear, [t], [x] => aclear P S t x
  | _, _, _ => none
def aopH (P : Program) (ev : Operand → Value) (op : Op) (S : St) : Option (Value × St) :=
  match op with
  | .move x => some (ev x, S)
  | .assign x => some (ev x, S)
  | .pick c a b => match ev c with
    | .bool t => some (if t then ev a else ev b, S)
    | _ => none
  | .alloc t => match azero P t with
    | some z => if scalar z = true ∧ (asize P t).isSome = true then some (ptrAt S.next z.cells.size, S.push ⟨z.cells.toList, t, true, 0⟩) else none
    | none => none
  | .box t x => if (asize P t).isSome = true then some (ptrAt S.next (ev x).cells.size, S.push ⟨(ev x).cells.toList, t, true, 0⟩) else none
  | .build t ps => match abuild P t (ps.map fun (i, x) => (i, ev x)) with
    | some v => some (v, S)
    | none => none
  | .buildSlice t n ps => abuildSlice P S t n (ps.map fun (i, x) => (i, ev x))
  | .load t a => match aload P S t (ev a) with
    | some v => some (v, S)
    | none => none
  | .store t a x => match astore P S t (ev a) (ev x) with
    | some S' => some (undef, S')
    | none => none
  | .nilCheck x => match ev x with
    | .pointer (some a) => some (.pointer (some a), S)
    | _ => none
  | .makeInterface t x => if P.concrete t = true then some (.iface t (ev x), S) else none
  | .makeFunc fn f c => some (.func fn (f.map ev) (c.map ev), S)
  | .makeSlice t l c => amakeSlice P S t (ev l) (ev c)
  | .slice t x lo hi mx => match aslice P t (ev x) (lo.map ev) (hi.map ev) (mx.map ev) with
    | some v => some (v, S)
    | none => none
  | .fieldAddr s x f => match afieldAddr P s f (ev x) with
    | some v => some (v, S)
    | none => none
  | .field t x f => match afield P t f (ev x) with
    | some v => some (v, S)
    | none => none
  | .indexAddr t x i => match aindexAddr P t (ev x) (ev i) with
    | some v => some (v, S)
    | none => none
  | .index t x i => match aindex P t (ev x) (ev i) with
    | some v => some (v, S)
    | none => none
  | .typeAssert x _ asserted ok => match atypeAssert P asserted ok (ev x) with
    | some v => some (v, S)
    | none => none
  | .extract t i => match ev t with
    | .tuple vs => match vs[i]? with
      | some v => some (v, S)
      | none => none
    | _ => none
  | .convert s d x => aconvert P S s d (ev x)
  | .binOp op t x y _ => match abinOp P op t (ev x) (ev y) with
    | some v => some (v, S)
    | none => none
  | .call ⟨.builtin b, args, ts⟩ => abuiltin P S b ts.toList (args.toList.map ev)
  | _ => none
def isSelect : Op → Bool
  | .select _ _ => true
  | _ => false
def ascalar (P : Program) (ev : Operand → Value) (o : Oper) (S : St) : Option (Value × St) :=
  if o.op.operands.all (fun x => scalar (ev x)) = true ∧ isSelect o.op = false then
    match pureRun P (execOp ev o) with
    | some (.value v) => if scalar v = true then some (v, S) else none
    | _ => none
  else none
def aop (P : Program) (ev : Operand → Value) (o : Oper) (S : St) : Option (Value × St) :=
  match aopH P ev o.op S with
  | some r => some r
  | none => ascalar P ev o S
def Does (P : Program) (ρ : Ren) (S : St) (w : World) (e : Sem Next) (v : Value) (S' : St) : Prop :=
  ∃ ρ' w' r cv, e.run P w = .ok r w' ∧ outV r = some cv ∧ VR ρ' v cv ∧ Step P ρ S w ρ' S' w'
section
variable {P : Program} {ρ : Ren} {S S' : St} {w w' : World}
theorem pr_map {ev cev : Operand → Value} : ∀ (ps : List (Nat × Operand)), (∀ x ∈ ps.map (·.2), VR ρ (ev x) (cev x)) → PR ρ (ps.map fun (i, x) => (i, ev x)) (ps.map fun (i, x) => (i, cev x))
  | [], _ => trivial
  | (i, x) :: ps, h => ⟨rfl, h x (by simp), pr_map ps fun y hy => h y (by simp at hy ⊢; exact .inr hy)⟩
theorem vrl_map {ev cev : Operand → Value} : ∀ (xs : List Operand), (∀ x ∈ xs, VR ρ (ev x) (cev x)) → VRL ρ (xs.map ev) (xs.map cev)
  | [], _ => VRL.nil ρ
  | x :: xs, h => VRL.cons (h x (by simp)) (vrl_map xs fun y hy => h y (by simp [hy]))
theorem anat_map {ev cev : Operand → Value} {x : Option Operand} {n : Option Nat} (h : anat (x.map ev) = some n) (hx : ∀ y, x = some y → VR ρ (ev y) (cev y)) : x.map cev = x.map ev := by
  cases x with
  | none => rfl
  | some y => exact anat_eq h (fun v e => ⟨cev y, rfl, by cases e; exact hx y rfl⟩) (fun e => by cases e)
theorem aslice_nats {t : TypeId} {x v : Value} {lo hi mx : Option Value} (h : aslice P t x lo hi mx = some v) : ∃ a b c, anat lo = some a ∧ anat hi = some b ∧ anat mx = some c := by
  unfold aslice at h
  split at h
  · exact ⟨_, _, _, by assumption, by assumption, by assumption⟩
  · cases h
theorem list2 {α : Type} {xs : Array α} {l : List α} (h : xs.toList = l) : xs = l.toArray := by subst h; simp
theorem scalar_sim {ev cev : Operand → Value} {o : Oper} {v : Value} (h : Rel P ρ S w) (hx : ∀ x ∈ o.op.operands, VR ρ (ev x) (cev x)) (hr : ascalar P ev o S = some (v, S')) : Does P ρ S w (execOp cev o) v S' := by
  unfold ascalar at hr
  split at hr
  case isFalse => cases hr
  rename_i hall
  split at hr
  case h_2 => cases hr
  rename_i u hp
  split at hr
  case isFalse => cases hr
  rename_i hs
  cases hr
  obtain ⟨hall, hns⟩ := hall
  have hsel : ∀ cs b, o.op ≠ .select cs b := fun cs b e => by rw [e] at hns; cases hns
  have he : execOp cev o = execOp ev o := (execOp_congr o hsel fun x hm => by
    rw [Array.all_eq_true_iff_forall_mem] at hall
    exact ((hx x hm).scalar_eq (hall x hm)).symm).symm
  exact ⟨ρ, w, .value v, v, by rw [he]; exact pureRun_run hp w, rfl, VR.scalar hs, Step.refl h⟩
theorem builtin_run {ev : Operand → Value} {dst : Option Tmp} {b : Builtin} {args : Array Operand} {ts : Array TypeId} {ty : TypeId} {pos : String} {after : Array Edge} {guard : Option (Nat × Bool)} :
    ∃ cs, ∀ w : World, (execOp ev ⟨dst, .call ⟨.builtin b, args, ts⟩, ty, pos, after, guard⟩).run P w = (builtin b ts ty cs (args.map ev)).run P w := by
  refine ⟨args.map fun | .const _ => true | _ => false, fun w => ?_⟩
  simp only [execOp, resolve, invoke, Sem.run_bind, Sem.run_pure, Result.andThen_ok]
  rfl
theorem does_of {ev : Operand → Value} {o : Oper} {v cv : Value} {ρ' : Ren} (h : (execOp ev o).run P w = .ok (.value cv) w') (hv : VR ρ' v cv) (st : Step P ρ S w ρ' S' w') : Does P ρ S w (execOp ev o) v S' := ⟨ρ', w', .value cv, cv, h, rfl, hv, st⟩
theorem builtin_sim {ev cev : Operand → Value} {dst : Option Tmp} {b : Builtin} {args : Array Operand} {ts : Array TypeId} {ty : TypeId} {pos : String} {after : Array Edge} {guard : Option (Nat × Bool)} {v : Value} (h : Rel P ρ S w)
    (hx : ∀ x ∈ args, VR ρ (ev x) (cev x)) (hf : Fresh ρ S S') (hr : abuiltin P S b ts.toList (args.toList.map ev) = some (v, S')) :
    Does P ρ S w (execOp cev ⟨dst, .call ⟨.builtin b, args, ts⟩, ty, pos, after, guard⟩) v S' := by
  have hl : VRL ρ (args.toList.map ev) (args.toList.map cev) := vrl_map _ fun x hm => hx x (by simpa using hm)
  have e0 : args.map cev = (args.toList.map cev).toArray := by apply Array.ext'; simp
  obtain ⟨cs, hbr⟩ := builtin_run (P := P) (ev := cev) (dst := dst) (b := b) (args := args) (ts := ts) (ty := ty) (pos := pos) (after := after) (guard := guard)
  unfold abuiltin at hr
  split at hr
  · rename_i t a n c hts hxs
    split at hr
    case isFalse => cases hr
    rename_i hk
    cases hr
    obtain ⟨e, hu⟩ := kSlice_eq hk
    rw [hxs] at hl
    obtain ⟨y, ys, e1, hy, hys⟩ := hl.uncons
    obtain rfl := hys.of_nil
    have hsl : ∃ A C, y = .slice A n C := by
      cases hy with
      | leaf _ hh => exact ⟨_, _, rfl⟩
      | sl b o L A _ _ C loc _ _ _ _ _ _ => exact ⟨_, _, rfl⟩
      | sl0 b o L _ A C _ => exact ⟨_, _, rfl⟩
    obtain ⟨A, C, rfl⟩ := hsl
    refine does_of (cv := goInt n) (w' := w) ?_ (.leaf _ rfl) (Step.refl h)
    rw [hbr, e0, e1, list2 hts]
    simp [builtin, Builtin.len_, run_underlying hu, Sem.run_pure]
  · rename_i t a n c hts hxs
    split at hr
    case isFalse => cases hr
    rename_i hk
    obtain ⟨hk, hc⟩ := hk
    cases hr
    obtain ⟨e, hu⟩ := kSlice_eq hk
    rw [hxs] at hl
    obtain ⟨y, ys, e1, hy, hys⟩ := hl.uncons
    obtain rfl := hys.of_nil
    have hsl : ∃ A m, y = .slice A m c := by
      cases hy with
      | leaf _ hh => exact ⟨_, _, rfl⟩
      | sl b o L A _ _ C loc _ _ _ hc' _ _ => exact ⟨_, _, by rw [hc'.resolve_left (Nat.not_le_of_lt hc)]⟩
      | sl0 b o L _ A C hc' =>
        rcases hc' with ⟨h1, h2⟩ | ⟨h1, _⟩
        · exact ⟨_, _, by rw [h1, h2.resolve_left (Nat.not_le_of_lt hc)]⟩
        · exact absurd h1 (Nat.not_le_of_lt hc)
    obtain ⟨A, m, rfl⟩ := hsl
    refine does_of (cv := goInt c) (w' := w) ?_ (.leaf _ rfl) (Step.refl h)
    rw [hbr, e0, e1, list2 hts]
    simp [builtin, Builtin.cap_, run_underlying hu, Sem.run_pure]
  · rename_i t tx s x hts hxs
    rw [hxs] at hl
    obtain ⟨y, ys, e1, hy, hys⟩ := hl.uncons
    obtain ⟨z, zs, rfl, hz, hzs⟩ := hys.uncons
    obtain rfl := hzs.of_nil
    obtain ⟨ρ', w1, v', hrun, hv, st⟩ := sim_append (ty := ty) h hy hz hf hr
    refine does_of (cv := v') (w' := w1) ?_ hv st
    rw [hbr, e0, e1, list2 hts]
    simp only [builtin, Sem.run_bind, hrun, Result.andThen_ok, Sem.run_pure]
  · rename_i t tx d s hts hxs
    rw [hxs] at hl
    obtain ⟨y, ys, e1, hy, hys⟩ := hl.uncons
    obtain ⟨z, zs, rfl, hz, hzs⟩ := hys.uncons
    obtain rfl := hzs.of_nil
    obtain ⟨w1, hrun, hv, st⟩ := sim_copy (sT := tx) (ty := ty) h hy hz hr
    refine does_of (cv := v) (w' := w1) ?_ (VR.scalar hv) st
    rw [hbr, e0, e1, list2 hts]
    simp only [builtin, Sem.run_bind, hrun, Result.andThen_ok, Sem.run_pure]
  · rename_i t x hts hxs
    rw [hxs] at hl
    obtain ⟨y, ys, e1, hy, hys⟩ := hl.uncons
    obtain rfl := hys.of_nil
    obtain ⟨w1, hrun, hv, st⟩ := sim_clear (ty := ty) h hy hr
    refine does_of (cv := v) (w' := w1) ?_ (VR.scalar hv) st
    rw [hbr, e0, e1, list2 hts]
    simp only [builtin, Sem.run_bind, hrun, Result.andThen_ok, Sem.run_pure]
  · cases hr
theorem op_sim {ev cev : Operand → Value} {o : Oper} {v : Value} (h : Rel P ρ S w) (hx : ∀ x ∈ o.op.operands, VR ρ (ev x) (cev x)) (hf : Fresh ρ S S') (hr : aopH P ev o.op S = some (v, S')) : Does P ρ S w (execOp cev o) v S' := by
  obtain ⟨dst, op, type, pos, after, guard⟩ := o
  simp only at hr hx
  have fresh1 : S'.next = S.next + 1 → ∀ L, ρ S.next L = none := fun e L => hf S.next L (Nat.le_refl _) (by omega)
  cases op <;> simp only [aopH] at hr <;> simp only [Op.operands] at hx
  case move x =>
    cases hr
    exact does_of (cv := cev x) (w' := w) (by simp [execOp, Sem.run_pure]) (hx x (by simp)) (Step.refl h)
  case assign x =>
    cases hr
    exact does_of (cv := cev x) (w' := w) (by simp [execOp, Sem.run_pure]) (hx x (by simp)) (Step.refl h)
  case pick c a b =>
    split at hr
    case h_2 => cases hr
    rename_i t hc
    cases hr
    have e : cev c = .bool t := (hx c (by simp)).scalar_eq (by rw [hc]; rfl) |>.trans hc
    refine does_of (cv := if t then cev a else cev b) (w' := w) (by simp [execOp, e, asBool, Sem.run_pure]) ?_ (Step.refl h)
    cases t
    · exact hx b (by simp)
    · exact hx a (by simp)
  case alloc t =>
    split at hr
    case h_2 => cases hr
    rename_i z hz
    split at hr
    case isFalse => cases hr
    rename_i hc
    cases hr
    obtain ⟨ρ', w1, hrun, hv, st⟩ := sim_alloc h hz hc.1 hc.2 (fresh1 rfl)
    exact does_of (by simp only [execOp, Sem.run_bind, hrun, Result.andThen_ok, Sem.run_pure]) hv st
  case box t x =>
    split at hr
    case isFalse => cases hr
    rename_i hc
    cases hr
    obtain ⟨ρ', w1, hrun, hv, st⟩ := sim_box h (hx x (by simp)) hc (fresh1 rfl)
    exact does_of (by simp only [execOp, Sem.run_bind, hrun, Result.andThen_ok, Sem.run_pure]) hv st
  case build t ps =>
    split at hr
    case h_2 => cases hr
    rename_i u hb
    cases hr
    have hp : PR ρ (ps.map fun (i, x) => (i, ev x)).toList (ps.map fun (i, x) => (i, cev x)).toList := by
      rw [Array.toList_map, Array.toList_map]
      exact pr_map _ fun x hm => hx x (by simpa using hm)
    obtain ⟨v', hrun, hv⟩ := sim_build (w := w) hp hb
    exact does_of (by simp only [execOp, Sem.run_bind, hrun, Result.andThen_ok, Sem.run_pure]) hv (Step.refl h)
  case buildSlice t n ps =>
    have hp : PR ρ (ps.map fun (i, x) => (i, ev x)).toList (ps.map fun (i, x) => (i, cev x)).toList := by
      rw [Array.toList_map, Array.toList_map]
      exact pr_map _ fun x hm => hx x (by simpa using hm)
    have hn : S'.next = S.next + 1 := by
      unfold abuildSlice at hr
      repeat' split at hr
      all_goals first | cases hr; done | (cases hr; rfl)
    obtain ⟨ρ', w1, v', hrun, hv, st⟩ := sim_buildSlice h hp (fresh1 hn) hr
    exact does_of (by simp only [execOp, Sem.run_bind, hrun, Result.andThen_ok, Sem.run_pure]) hv st
  case load t a =>
    split at hr
    case h_2 => cases hr
    rename_i u hb
    cases hr
    obtain ⟨v', hrun, hv⟩ := sim_load h (hx a (by simp)) hb
    exact does_of (by simp only [execOp, Sem.run_bind, hrun, Result.andThen_ok, Sem.run_pure]) hv (Step.refl h)
  case store t a x =>
    split at hr
    case h_2 => cases hr
    rename_i u hb
    cases hr
    obtain ⟨w1, hrun, st⟩ := sim_store h (hx a (by simp)) (hx x (by simp)) hb
    exact ⟨ρ, w1, .skip, undef, by simp only [execOp, Sem.run_bind, hrun, Result.andThen_ok, Sem.run_pure], rfl, vr_undef ρ, st⟩
  case nilCheck x =>
    split at hr
    case h_2 => cases hr
    rename_i a ha
    cases hr
    have hv := hx x (by simp)
    rw [ha] at hv
    obtain ⟨L, loc, A, _, h1, h2, h3, e⟩ := hv.ptr_inv
    rw [e] at hv
    exact does_of (w' := w) (by simp [execOp, e, Sem.run_pure]) hv (Step.refl h)
  case makeInterface t x =>
    split at hr
    case isFalse => cases hr
    rename_i hc
    cases hr
    exact does_of (w' := w) (by simp only [execOp, Sem.run_bind, run_makeInterface w t _ hc, Result.andThen_ok, Sem.run_pure]) (.iface t _ _ (hx x (by simp))) (Step.refl h)
  case makeFunc fn f c =>
    cases hr
    refine does_of (cv := .func fn (f.map cev) (c.map cev)) (w' := w) (by simp [execOp, Instr.makeFunc, Sem.run_pure]) ?_ (Step.refl h)
    have k1 := vrl_map (ρ := ρ) (ev := ev) (cev := cev) f.toList fun x hm => hx x (by simp at hm ⊢; exact .inl hm)
    have k2 := vrl_map (ρ := ρ) (ev := ev) (cev := cev) c.toList fun x hm => hx x (by simp at hm ⊢; exact .inr hm)
    rw [← Array.toList_map, ← Array.toList_map] at k1 k2
    exact .func fn _ _ _ _ (vrl_arr.1 k1).1 (vrl_arr.1 k1).2 (vrl_arr.1 k2).1 (vrl_arr.1 k2).2
  case makeSlice t l c =>
    have hn : S'.next = S.next + 1 := by
      unfold amakeSlice at hr
      repeat' split at hr
      all_goals first | cases hr; done | (cases hr; rfl)
    obtain ⟨ρ', w1, v', hrun, hv, st⟩ := sim_makeSlice h (hx l (by simp)) (hx c (by simp)) (fresh1 hn) hr
    exact does_of (by simp only [execOp, Sem.run_bind, hrun, Result.andThen_ok, Sem.run_pure]) hv st
  case slice t x lo hi mx =>
    split at hr
    case h_2 => cases hr
    rename_i u hb
    cases hr
    obtain ⟨a, b, c, ha, hb', hc⟩ := aslice_nats hb
    have e1 := anat_map (ρ := ρ) (cev := cev) ha fun y hy => hx y (by subst hy; simp)
    have e2 := anat_map (ρ := ρ) (cev := cev) hb' fun y hy => hx y (by subst hy; simp)
    have e3 := anat_map (ρ := ρ) (cev := cev) hc fun y hy => hx y (by subst hy; simp)
    obtain ⟨v', hrun, hv⟩ := sim_slice h (hx x (by simp)) hb
    exact does_of (by simp only [execOp, Sem.run_bind, e1, e2, e3, hrun, Result.andThen_ok, Sem.run_pure]) hv (Step.refl h)
  case fieldAddr s x f =>
    split at hr
    case h_2 => cases hr
    rename_i u hb
    cases hr
    obtain ⟨v', hrun, hv⟩ := sim_fieldAddr (w := w) (hx x (by simp)) hb
    exact does_of (by simp only [execOp, Sem.run_bind, hrun, Result.andThen_ok, Sem.run_pure]) hv (Step.refl h)
  case field t x f =>
    split at hr
    case h_2 => cases hr
    rename_i u hb
    cases hr
    obtain ⟨v', hrun, hv⟩ := sim_field (w := w) (hx x (by simp)) hb
    exact does_of (by simp only [execOp, Sem.run_bind, hrun, Result.andThen_ok, Sem.run_pure]) hv (Step.refl h)
  case indexAddr t x i =>
    split at hr
    case h_2 => cases hr
    rename_i u hb
    cases hr
    obtain ⟨v', hrun, hv⟩ := sim_indexAddr (w := w) (hx x (by simp)) (hx i (by simp)) hb
    exact does_of (by simp only [execOp, Sem.run_bind, hrun, Result.andThen_ok, Sem.run_pure]) hv (Step.refl h)
  case index t x i =>
    split at hr
    case h_2 => cases hr
    rename_i u hb
    cases hr
    obtain ⟨v', hrun, hv⟩ := sim_index (w := w) (hx x (by simp)) (hx i (by simp)) hb
    exact does_of (by simp only [execOp, Sem.run_bind, hrun, Result.andThen_ok, Sem.run_pure]) hv (Step.refl h)
  case typeAssert x xT asserted ok =>
    split at hr
    case h_2 => cases hr
    rename_i u hb
    cases hr
    obtain ⟨v', hrun, hv⟩ := sim_typeAssert (w := w) (xT := xT) (hx x (by simp)) hb
    exact does_of (by simp only [execOp, Sem.run_bind, hrun, Result.andThen_ok, Sem.run_pure]) hv (Step.refl h)
  case extract t i =>
    split at hr
    case h_2 => cases hr
    rename_i vs hvs
    split at hr
    case h_2 => cases hr
    rename_i u hu
    cases hr
    have hv := hx t (by simp)
    rw [hvs] at hv
    obtain ⟨ys, e, hl⟩ := hv.tuple_inv
    obtain ⟨v', e2, hv2⟩ := hl.get (i := i) (by simpa using hu)
    have e3 : ys[i]? = some v' := by simpa using e2
    exact does_of (cv := v') (w' := w) (by simp [execOp, e, Instr.extract, e3, Sem.run_pure]) hv2 (Step.refl h)
  case convert s d x =>
    obtain ⟨ρ', w1, v', hrun, hv, st⟩ := sim_convert h (hx x (by simp)) hf hr
    exact does_of (by simp only [execOp, Sem.run_bind, hrun, Result.andThen_ok, Sem.run_pure]) hv st
  case binOp op t x y yt =>
    split at hr
    case h_2 => cases hr
    rename_i u hb
    cases hr
    unfold abinOp at hb
    have key : ∀ b, anil P t (ev x) (ev y) = some b → (Op.equal t (cev x) (cev y)).run P w = .ok b w ∧ (eqGuard .eql t x y (cev x) (cev y)).run P w = .ok () w ∧ (eqGuard .neq t x y (cev x) (cev y)).run P w = .ok () w ∧
        binOp .eql t (cev x) (cev y) = (do pure (.bool (← Op.equal t (cev x) (cev y)))) ∧ binOp .neq t (cev x) (cev y) = (do pure (.bool (!(← Op.equal t (cev x) (cev y))))) := by
      intro b hb
      have h1 := hx x (by simp)
      have h2 := hx y (by simp)
      refine ⟨sim_nil h1 h2 hb, ?_⟩
      generalize ev x = X at *
      generalize ev y = Y at *
      generalize cev x = X' at *
      generalize cev y = Y' at *
      unfold anil at hb
      split at hb
      all_goals first
        | (obtain rfl := h2.scalar_eq rfl; cases h1 <;> first | (simp [eqGuard, binOp, Sem.run_pure]; done) | (simp [leaf] at *; done))
        | (obtain rfl := h1.scalar_eq rfl; cases h2 <;> first | (simp [eqGuard, binOp, Sem.run_pure]; done) | (simp [leaf] at *; done))
        | cases hb
    split at hb
    · cases hn : anil P t (ev x) (ev y) with
      | none => simp [hn] at hb
      | some b =>
        simp only [hn, Option.map_some, Option.some.injEq] at hb
        subst hb
        obtain ⟨k1, k2, k3, k4, k5⟩ := key b hn
        exact does_of (cv := .bool b) (w' := w) (by simp only [execOp, Sem.run_bind, k2, Result.andThen_ok, k4, k1, Sem.run_pure]) (.leaf _ rfl) (Step.refl h)
    · cases hn : anil P t (ev x) (ev y) with
      | none => simp [hn] at hb
      | some b =>
        simp only [hn, Option.map_some, Option.some.injEq] at hb
        subst hb
        obtain ⟨k1, k2, k3, k4, k5⟩ := key b hn
        exact does_of (cv := .bool !b) (w' := w) (by simp only [execOp, Sem.run_bind, k3, Result.andThen_ok, k5, k1, Sem.run_pure]) (.leaf _ rfl) (Step.refl h)
    · cases hb
  case call c =>
    obtain ⟨callee, args, ts⟩ := c
    cases callee <;> simp only at hr
    case builtin b => exact builtin_sim h (fun x hm => hx x (by simp [Call.operands]; exact hm)) hf hr
    all_goals cases hr
  all_goals cases hr
theorem aop_sim {ev cev : Operand → Value} {o : Oper} {v : Value} (h : Rel P ρ S w) (hx : ∀ x ∈ o.op.operands, VR ρ (ev x) (cev x)) (hf : Fresh ρ S S') (hr : aop P ev o S = some (v, S')) : Does P ρ S w (execOp cev o) v S' := by
  unfold aop at hr
  split at hr
  · rename_i r hr'
    cases hr
    exact op_sim h hx hf hr'
  · exact scalar_sim h hx hr
end
end Go.Proofs.YtdmbgbennlnpcaaDoorAbs
namespace Go.Proofs.YtdmbgbennlnpcaaDoorAbs
set_option linter.unusedVariables false
set_option linter.unusedSimpArgs false
def St.WF (S : St) : Prop := ∀ b, S.next ≤ b → S.get b = none
structure Mono (S S' : St) : Prop where
  next : S.next ≤ S'.next
  low : S'.low ≤ S.low
  frame : ∀ b, b < S.next → b < S'.low → S'.get b = S.get b
  wf : S.WF → S'.WF
  theirs : ∀ m, m ≤ S.next → m ≤ S.low → (∀ b blk, b < m → S.get b = some blk → blk.own = false) → m ≤ S'.low
theorem Mono.refl (S : St) : Mono S S := ⟨Nat.le_refl _, Nat.le_refl _, fun _ _ _ => rfl, id, fun _ _ h _ => h⟩
theorem Mono.trans {S S1 S2 : St} (h : Mono S S1) (k : Mono S1 S2) : Mono S S2 :=
  ⟨Nat.le_trans h.next k.next, Nat.le_trans k.low h.low, fun b h1 h2 => (k.frame b (Nat.lt_of_lt_of_le h1 h.next) h2).trans (h.frame b h1 (Nat.lt_of_lt_of_le h2 k.low)), fun q => k.wf (h.wf q),
    fun m h1 h2 h3 => k.theirs m (Nat.le_trans h1 h.next) (h.theirs m h1 h2 h3) fun b blk hb hg => h3 b blk hb (by rw [← h.frame b (Nat.lt_of_lt_of_le hb h1) (Nat.lt_of_lt_of_le hb (h.theirs m h1 h2 h3))]; exact hg)⟩
theorem Mono.push (S : St) (blk : Blk) : Mono S (S.push blk) :=
  ⟨by simp, Nat.le_refl _, fun b h _ => S.get_push_lt blk h, fun q b hb => by rw [S.get_push_ne blk (by simp at hb; omega)]; exact q b (by simp at hb; omega), fun _ _ h _ => h⟩
theorem Mono.upd {S : St} {i : Nat} {old : Blk} (blk : Blk) (hi : i < S.next) (hg : S.get i = some old) (ho : old.own = true) : Mono S (S.upd i blk) :=
  ⟨Nat.le_refl _, Nat.min_le_left _ _, fun b _ h => S.get_upd_ne blk (by simp at h; omega), fun q b hb => by rw [S.get_upd_ne blk (by simp at hb; omega)]; exact q b hb,
    fun m h1 h2 h3 => by
      by_cases q : i < m
      · rw [h3 i old q hg] at ho; cases ho
      · simp; omega⟩
theorem awrite_mono {S S' : St} {a : Addr} {vs : List Value} (h : awrite S a vs = some S') : Mono S S' := by
  unfold awrite at h
  split at h
  · split at h
    · rename_i hc
      cases h
      exact Mono.upd _ hc.2.2.2.2.1 (by assumption) hc.1
    · cases h
  · cases h
theorem aappend_mono {P : Program} {S S' : St} {t tx : TypeId} {s x v : Value} (h : aappend P S t tx s x = some (v, S')) : Mono S S' := by
  unfold aappend at h
  repeat' split at h
  all_goals first
    | (cases h; done)
    | (cases h; exact Mono.refl _)
    | (cases h; exact Mono.push _ _)
    | (cases h; exact awrite_mono (by assumption))
    | (cases h; rename_i hc; exact Mono.upd _ hc.2.2.2.2.1 (by assumption) hc.1)
    | (cases h; rename_i hc; exact (Mono.upd _ hc.2.2.2.2.1 (by assumption) hc.1).trans (Mono.push _ _))
theorem acopy_mono {P : Program} {S S' : St} {t : TypeId} {s x v : Value} (h : acopy P S t s x = some (v, S')) : Mono S S' := by
  unfold acopy at h
  repeat' split at h
  all_goals first
    | (cases h; done)
    | (cases h; exact Mono.refl _)
    | (rw [Option.map_eq_some_iff] at h; obtain ⟨S1, h1, h2⟩ := h; cases h2; exact awrite_mono h1)
theorem aclear_mono {P : Program} {S S' : St} {t : TypeId} {x v : Value} (h : aclear P S t x = some (v, S')) : Mono S S' := by
  unfold aclear at h
  repeat' split at h
  all_goals first
    | (cases h; done)
    | (cases h; exact Mono.refl _)
    | (rw [Option.map_eq_some_iff] at h; obtain ⟨S1, h1, h2⟩ := h; cases h2; exact awrite_mono h1)
theorem aop_mono {P : Program} {ev : Operand → Value} {o : Oper} {S S' : St} {v : Value} (h : aop P ev o S = some (v, S')) : Mono S S' := by
  unfold aop at h
  split at h
  · rename_i r hr
    cases h
    obtain ⟨dst, op, type, pos, after, guard⟩ := o
    simp only at hr
    cases op <;> simp only [aopH] at hr
    case call c =>
      obtain ⟨callee, args, ts⟩ := c
      cases callee <;> simp only at hr
      case builtin b =>
        unfold abuiltin at hr
        split at hr
        · split at hr
          · cases hr; exact Mono.refl _
          · cases hr
        · split at hr
          · cases hr; exact Mono.refl _
          · cases hr
        · exact aappend_mono hr
        · exact acopy_mono hr
        · exact aclear_mono hr
        · cases hr
      all_goals cases hr
    case buildSlice =>
      unfold abuildSlice at hr
      repeat' split at hr
      all_goals first | (cases hr; done) | (cases hr; exact Mono.push _ _)
    case makeSlice =>
      unfold amakeSlice at hr
      repeat' split at hr
      all_goals first | (cases hr; done) | (cases hr; exact Mono.push _ _)
    case convert =>
      unfold aconvert at hr
      repeat' split at hr
      all_goals first
        | (cases hr; done)
        | (cases hr; exact Mono.push _ _)
        | (cases hr; exact Mono.refl _)
        | (cases hr; rename_i hc; exact Mono.upd _ hc.2 (by assumption) hc.1)
        | (rw [Option.map_eq_some_iff] at hr; obtain ⟨S1, h1, h2⟩ := hr; cases h2; exact Mono.refl _)
    case store t a x =>
      split at hr
      · rename_i S1 hs
        cases hr
        unfold astore at hs
        repeat' split at hs
        all_goals first | (cases hs; done) | exact awrite_mono hs
      · cases hr
    all_goals (repeat' split at hr)
    all_goals first
      | (cases hr; done)
      | (cases hr; exact Mono.refl _)
      | (cases hr; exact Mono.push _ _)
  · unfold ascalar at h
    repeat' split at h
    all_goals first | (cases h; done) | (cases h; exact Mono.refl _)
def lk : List (Nat × Value) → Nat → Value
  | [], _ => undef
  | (k, v) :: r, t => if t = k then v else lk r t
def pt : List (Nat × Value) → Nat → Value → List (Nat × Value)
  | [], t, v => [(t, v)]
  | (k, u) :: r, t, v => if t = k then (k, v) :: r else (k, u) :: pt r t v
structure Env where
  l : List (Nat × Value)
def Env.get (e : Env) (t : Nat) : Value := lk e.l t
def Env.put (e : Env) (t : Nat) (v : Value) : Env := ⟨pt e.l t v⟩
theorem lk_pt_self : ∀ (l : List (Nat × Value)) (t : Nat) (v : Value), lk (pt l t v) t = v
  | [], t, v => by simp [pt, lk]
  | (k, u) :: r, t, v => by
    unfold pt
    split
    · rename_i h; simp [lk, h]
    · rename_i h; simp [lk, h, lk_pt_self r t v]
theorem lk_pt_ne : ∀ (l : List (Nat × Value)) (t s : Nat) (v : Value), s ≠ t → lk (pt l t v) s = lk l s
  | [], t, s, v, h => by simp [pt, lk, h]
  | (k, u) :: r, t, s, v, h => by
    unfold pt
    split
    · rename_i hk
      subst hk
      simp [lk, h]
    · rename_i hk
      by_cases hs : s = k
      · simp [lk, hs]
      · simp [lk, hs, lk_pt_ne r t s v h]
theorem Env.get_put_self (e : Env) (t : Nat) (v : Value) : (e.put t v).get t = v := lk_pt_self e.l t v
theorem Env.get_put_ne (e : Env) {t s : Nat} (v : Value) (h : s ≠ t) : (e.put t v).get s = e.get s := lk_pt_ne e.l t s v h
def Env.putO (e : Env) (d : Option Tmp) (v : Value) : Env :=
  match d with
  | some t => e.put t v
  | none => e
def Env.ev (e : Env) : Operand → Value
  | .tmp t => e.get t
  | .const v => v
  | .global g => .pointer (some ⟨g, 0, some 0⟩)
  | .func f => .func (.func f) #[] #[]
def argEnv : Nat → List Value → List (Nat × Value)
  | _, [] => []
  | k, v :: r => (k, v) :: argEnv (k + 1) r
abbrev CallF := FuncId → Array Value → St → Option (Value × St)
def callable (P : Program) (f : FuncId) : Bool :=
  match P.funcs[f]? with
  | some fn => fn.body.isSome && !(fn.name == "runtime.NumGoroutine")
  | none => false
def acallee : Value → Array Value → Option (FuncId × Array Value)
  | .func (.func f) first captured, args => some (f, (first ++ args) ++ captured)
  | _, _ => none
def arun (P : Program) (call : CallF) (ev : Operand → Value) (o : Oper) (S : St) : Option (Value × St) :=
  match o.op with
  | .call ⟨.value f, args, _⟩ =>
    match acallee (ev f) (args.map ev) with
    | some (g, xs) => if callable P g = true then call g xs S else none
    | none => none
  | _ => aop P ev o S
def wants (ops : Array Oper) (o : Oper) (e : Env) : Bool :=
  match o.guard with
  | none => true
  | some (j, want) =>
    match (ops[j]?).bind (·.dst) with
    | some t => (match e.get t with | .bool b => b == want | _ => false)
    | none => false
def astep (P : Program) (call : CallF) (ops : Array Oper) (o : Oper) (fl : Bool) (e : Env) (S : St) : Option (Env × St) :=
  if wants ops o e = true then
    match fl with
    | false =>
      match arun P call e.ev o S with
      | some (v, S') => some (e.putO o.dst v, S')
      | none => none
    | true =>
      match arun P call e.ev o (S.withLow S.next) with
      | some (v, S') => if S.next ≤ S'.low then some (e.putO o.dst v, S'.withLow S.low) else none
      | none => none
  else some (e.putO o.dst undef, S)
def aops (P : Program) (call : CallF) (ops : Array Oper) : List Oper → List Bool → Env → St → Option (Env × St)
  | [], _, e, S => some (e, S)
  | o :: r, fl, e, S =>
    match astep P call ops o (fl.headD false) e S with
    | some (e', S') => aops P call ops r fl.tail e' S'
    | none => none
structure CallSim (P : Program) (call : CallF) : Prop where
  mono : ∀ f xs S v S', call f xs S = some (v, S') → Mono S S'
  sim : ∀ f xs S v S', call f xs S = some (v, S') → ∀ (ρ : Ren) (w : World) (ys : Array Value), Rel P ρ S w → S.WF → VRL ρ xs.toList ys.toList → Fresh ρ S S' →
    Calls P f ys w fun e w' => ∃ ρ' cv, e = .returned cv ∧ VR ρ' v cv ∧ Step P ρ S w ρ' S' w'
theorem arun_mono {P : Program} {call : CallF} (hc : CallSim P call) {ev : Operand → Value} {o : Oper} {S S' : St} {v : Value} (h : arun P call ev o S = some (v, S')) : Mono S S' := by
  unfold arun at h
  split at h
  · split at h
    · split at h
      · exact hc.mono _ _ _ _ _ h
      · cases h
    · cases h
  · exact aop_mono h
theorem withLow_mono {S S' : St} (h : Mono (S.withLow S.next) S') (hl : S.next ≤ S'.low) : Mono S (S'.withLow S.low) :=
  ⟨h.next, Nat.le_refl _, fun b h1 _ => h.frame b h1 (Nat.lt_of_lt_of_le h1 hl), fun q => h.wf q, fun _ _ h2 _ => h2⟩
theorem astep_mono {P : Program} {call : CallF} (hc : CallSim P call) {ops : Array Oper} {o : Oper} {fl : Bool} {e e' : Env} {S S' : St} (h : astep P call ops o fl e S = some (e', S')) : Mono S S' := by
  unfold astep at h
  split at h
  · cases fl with
    | false =>
      simp only at h
      split at h
      · cases h; exact arun_mono hc (by assumption)
      · cases h
    | true =>
      simp only at h
      split at h
      · split at h
        · cases h; exact withLow_mono (arun_mono hc (by assumption)) (by assumption)
        · cases h
      · cases h
  · cases h; exact Mono.refl _
theorem aops_mono {P : Program} {call : CallF} (hc : CallSim P call) {ops : Array Oper} : ∀ (l : List Oper) (fl : List Bool) {e e' : Env} {S S' : St}, aops P call ops l fl e S = some (e', S') → Mono S S'
  | [], _, e, e', S, S', h => by cases h; exact Mono.refl _
  | o :: r, fl, e, e', S, S', h => by
    unfold aops at h
    split at h
    · exact (astep_mono hc (by assumption)).trans (aops_mono hc r fl.tail h)
    · cases h
def EnvR (ρ : Ren) (e : Env) (a : Act) : Prop := ∀ t, VR ρ (e.get t) (a.tmps.getD t undef)
theorem EnvR.mono {ρ ρ' : Ren} (h : ρ.le ρ') {e : Env} {a : Act} (k : EnvR ρ e a) : EnvR ρ' e a := fun t => (k t).mono h
def okOpnd (P : Program) : Operand → Bool
  | .tmp _ => true
  | .const v => scalar v
  | .global g => decide (g ≤ P.globals.size)
  | .func _ => true
def okOper (P : Program) (N : Nat) (o : Oper) : Bool := o.op.operands.all (okOpnd P) && (match o.dst with | some d => decide (d < N) | none => true)
theorem opnd_rel {P : Program} {ρ : Ren} {S : St} {w : World} (hr : Rel P ρ S w) {e : Env} {a : Act} {x : Operand} (h : okOpnd P x = true) (ht : ∀ t, x = .tmp t → VR ρ (e.get t) (a.tmps.getD t undef)) : VR ρ (e.ev x) (a.eval x) := by
  cases x with
  | tmp t => exact ht t rfl
  | const v => exact VR.scalar h
  | global g => exact .ptr g 0 0 0 ⟨g, 0, 0, 0, 0, false⟩ (hr.glob g (by simpa [okOpnd] using h)) (Nat.le_refl _) (by simp)
  | func f => exact .leaf _ rfl
theorem vr_bool {ρ : Ren} {v : Value} {b : Bool} : VR ρ v (.bool b) → v = .bool b := by
  intro h
  cases h
  rfl
theorem wants_eq {ρ : Ren} {ops : Array Oper} {o : Oper} {e : Env} {a : Act} (h : ∀ t, t ∈ o.looksAt ops → VR ρ (e.get t) (a.tmps.getD t undef)) : Region.wanted o (yielded ops a.tmps) = wants ops o e := by
  unfold Region.wanted wants
  cases hg : o.guard with
  | none => rfl
  | some gw =>
    obtain ⟨j, want⟩ := gw
    simp only
    unfold yielded
    cases hd : (ops[j]?).bind (·.dst) with
    | none => simp
    | some t =>
      have ht := h t (by simp [Oper.looksAt, hg, hd])
      simp only [Option.bind_some]
      have e1 : a.tmps.getD t undef = (a.tmps[t]?).getD undef := by simp [Array.getD_eq_getD_getElem?]
      rw [e1] at ht
      cases hv : a.tmps[t]? with
      | none =>
        rw [hv] at ht
        cases he : e.get t with
        | bool b =>
          rw [he] at ht
          have := ht.scalar_eq rfl
          simp [undef] at this
        | _ => simp
      | some u =>
        rw [hv] at ht
        simp only [Option.getD_some] at ht
        cases u with
        | bool b => rw [vr_bool ht]; rfl
        | _ =>
          cases he : e.get t with
          | bool b =>
            rw [he] at ht
            have := ht.scalar_eq rfl
            simp at this
          | _ => simp
theorem callFunc_run {P : Program} {g : FuncId} (hc : callable P g = true) (xs : Array Value) (w : World) : (callFunc g xs).run P w = .ok (.enter g xs) w := by
  unfold callable at hc
  cases hf : P.funcs[g]? with
  | none => simp [hf] at hc
  | some fn =>
    simp only [hf, Bool.and_eq_true, Bool.not_eq_true'] at hc
    have h1 : fn.body.isNone = false := by cases hb : fn.body <;> simp_all
    have h2 : ¬ (fn.name == "runtime.NumGoroutine") = true := by rw [hc.2]; simp
    simp only [callFunc, program, Sem.run_bind, Sem.run, Result.andThen_ok, hf, if_neg h2, h1, Bool.false_eq_true, if_false, Sem.run_pure]
theorem acallee_spec {v : Value} {args xs : Array Value} {g : FuncId} (h : acallee v args = some (g, xs)) : ∃ first captured, v = .func (.func g) first captured ∧ xs = (first ++ args) ++ captured := by
  unfold acallee at h
  split at h
  · cases h; exact ⟨_, _, rfl, rfl⟩
  · cases h
theorem run_sim {P : Program} {call : CallF} (hc : CallSim P call) {ρ : Ren} {S S' : St} {w : World} {e : Env} {a : Act} {o : Oper} {v : Value} {Q : Exit → Act → World → Prop} {K : Act → World → Prop}
    (h : Rel P ρ S w) (hwf : S.WF) (hok : o.op.operands.all (okOpnd P) = true) (ht : ∀ t, Operand.tmp t ∈ o.op.operands → VR ρ (e.get t) (a.tmps.getD t undef)) (hf : Fresh ρ S S') (hr : arun P call e.ev o S = some (v, S'))
    (hK : ∀ ρ' cv w', VR ρ' v cv → Step P ρ S w ρ' S' w' → K (a.put o.dst cv) w') : o.wp P a w K Q := by
  have hx : ∀ x ∈ o.op.operands, VR ρ (e.ev x) (a.eval x) := fun x hm => by
    rw [Array.all_eq_true_iff_forall_mem] at hok
    exact opnd_rel h (hok x hm) fun t q => ht t (q ▸ hm)
  unfold arun at hr
  split at hr
  · rename_i f args ts hop
    split at hr
    case h_2 => cases hr
    rename_i g xs hcal
    split at hr
    case isFalse => cases hr
    rename_i hcb
    obtain ⟨dst, op, type, pos, after, guard⟩ := o
    simp only at hop
    subst hop
    simp only [Op.operands, Call.operands] at hx
    have hfv := hx f (by simp)
    obtain ⟨first, captured, hfe, rfl⟩ := acallee_spec hcal
    rw [hfe] at hfv
    obtain ⟨f2, c2, e1, k1, k2⟩ := hfv.func_inv
    have hargs : VRL ρ (args.map e.ev).toList (args.map a.eval).toList := by
      rw [Array.toList_map, Array.toList_map]
      exact vrl_map _ fun x hm => hx x (by simp; exact .inr (by simpa using hm))
    have hall : VRL ρ ((first ++ args.map e.ev) ++ captured).toList ((f2 ++ args.map a.eval) ++ c2).toList := by
      rw [Array.toList_append, Array.toList_append, Array.toList_append, Array.toList_append]
      exact (k1.append hargs).append k2
    have hrun : (execOp a.eval ⟨dst, .call ⟨.value f, args, ts⟩, type, pos, after, guard⟩).run P w = .ok (.enter g ((f2 ++ args.map a.eval) ++ c2)) w := by
      simp only [execOp, resolve, Sem.run_bind, e1, Deferred.ofValue, Sem.run_pure, Result.andThen_ok, invoke]
      exact callFunc_run hcb _ w
    unfold Oper.wp
    rw [hrun, Oper.upon_enter]
    refine (hc.sim g _ S v S' hr ρ w _ h hwf hall hf).mono ?_
    rintro e' w' ⟨ρ', cv, rfl, hv, st⟩
    exact hK ρ' cv w' hv st
  · obtain ⟨ρ', w', r, cv, k1, k2, k3, k4⟩ := aop_sim h hx hf hr
    unfold Oper.wp
    rw [k1]
    cases r <;> simp [outV] at k2 <;> subst k2
    · exact hK ρ' _ w' k3 k4
    · exact hK ρ' _ w' k3 k4
end Go.Proofs.YtdmbgbennlnpcaaDoorAbs
namespace Go.Proofs.YtdmbgbennlnpcaaDoorAbs
set_option linter.unusedVariables false
set_option linter.unusedSimpArgs false
theorem put_size (a : Act) (d : Option Tmp) (v : Value) : (a.put d v).tmps.size = a.tmps.size := by cases d <;> simp [Act.put]
theorem put_defers (a : Act) (d : Option Tmp) (v : Value) : (a.put d v).defers = a.defers := by cases d <;> rfl
theorem put_get (a : Act) {d : Tmp} (v : Value) (h : d < a.tmps.size) (t : Tmp) : (a.put (some d) v).tmps.getD t undef = if t = d then v else a.tmps.getD t undef := by
  simp only [Act.put, Array.getD_eq_getD_getElem?]
  by_cases e : t = d
  · subst e; simp [h]
  · rw [if_neg e, Array.getElem?_setIfInBounds_ne (Ne.symm e)]
theorem putO_get (e : Env) (d : Tmp) (v : Value) (t : Tmp) : (e.putO (some d) v).get t = if t = d then v else e.get t := by
  by_cases h : t = d
  · subst h; rw [if_pos rfl]; exact e.get_put_self t v
  · rw [if_neg h]; exact e.get_put_ne v h
theorem EnvR.put {P : Program} {ρ : Ren} {e : Env} {a : Act} {N : Nat} {o : Oper} (h : EnvR ρ e a) (hN : a.tmps.size = N) (ho : okOper P N o = true) {v cv : Value} (hv : VR ρ v cv) : EnvR ρ (e.putO o.dst v) (a.put o.dst cv) := by
  intro t
  cases hd : o.dst with
  | none => exact h t
  | some d =>
    have hlt : d < N := by
      unfold okOper at ho
      rw [hd] at ho
      simp only [Bool.and_eq_true, decide_eq_true_eq] at ho
      exact ho.2
    rw [putO_get, put_get a cv (hN ▸ hlt)]
    split
    · exact hv
    · exact h t
theorem oper_ok {P : Program} {N : Nat} {o : Oper} (h : okOper P N o = true) : o.op.operands.all (okOpnd P) = true := by
  simp only [okOper, Bool.and_eq_true] at h; exact h.1
theorem step_flag {P : Program} {ρ ρ' : Ren} {S S' : St} {w w' : World} (h : Step P ρ (S.withLow S.next) w ρ' S' w') (hl : S.next ≤ S'.low) : Step P ρ S w ρ' (S'.withLow S.low) w' := by
  refine ⟨h.ext, h.env, h.rel.same rfl rfl, h.hsz, h.next, Nat.le_refl _, fun b L loc h1 h2 => ?_, fun m B hm _ hB hk => ?_⟩
  · obtain ⟨a, c⟩ := h.new b L loc h1 h2
    have c' : w.heap.size ≤ loc.B ∨ ∃ b0 L0 loc0, b0 < S.next ∧ (S'.withLow S.low).low ≤ b0 ∧ ρ b0 L0 = some loc0 ∧ loc0.own = true ∧ loc0.B = loc.B := by
      rcases c with c | ⟨b0, L0, loc0, c0, c4, c1⟩
      · exact .inl c
      · exact absurd (Nat.lt_of_lt_of_le (show b0 < S.next from c0) hl) (Nat.not_lt_of_le c4)
    refine ⟨?_, c'⟩
    clear c c'
    rcases a with a | a
    · exact .inl a
    · have h1 : b < S.next := a.1
      have h2 := a.2
      omega
  · exact h.keep m B hm (Nat.le_trans hm hl) hB hk
theorem astep_sim {P : Program} {call : CallF} (hc : CallSim P call) {ρ : Ren} {S S' : St} {w : World} {e e' : Env} {a : Act} {N : Nat} {ops : Array Oper} {o : Oper} {fl : Bool} {Q : Exit → Act → World → Prop} {K : Act → World → Prop}
    (h : Rel P ρ S w) (hwf : S.WF) (hN : a.tmps.size = N) (ho : okOper P N o = true) (ht : ∀ t, t ∈ o.looksAt ops → VR ρ (e.get t) (a.tmps.getD t undef)) (hf : Fresh ρ S S') (hr : astep P call ops o fl e S = some (e', S'))
    (hK : ∀ ρ' v cv w', VR ρ' v cv → e' = e.putO o.dst v → Step P ρ S w ρ' S' w' → K (a.put o.dst cv) w') :
    if Region.wanted o (yielded ops a.tmps) = true then o.wp P a w K Q else K (a.put o.dst undef) w := by
  rw [wants_eq ht]
  unfold astep at hr
  have ht' : ∀ t, Operand.tmp t ∈ o.op.operands → VR ρ (e.get t) (a.tmps.getD t undef) := fun t hm => ht t (by
    refine List.mem_append_left _ (List.mem_filterMap.2 ⟨.tmp t, by simpa using hm, rfl⟩))
  split at hr
  · rename_i hw
    rw [if_pos hw]
    cases fl with
    | false =>
      simp only at hr
      split at hr
      case h_2 => cases hr
      rename_i v S1 hrun
      cases hr
      exact run_sim hc h hwf (oper_ok ho) ht' hf hrun fun ρ' cv w' hv st => hK ρ' v cv w' hv rfl st
    | true =>
      simp only at hr
      split at hr
      case h_2 => cases hr
      rename_i v S1 hrun
      split at hr
      case isFalse => cases hr
      rename_i hl
      cases hr
      refine run_sim (S := S.withLow S.next) (S' := S1) hc (h.same rfl rfl) hwf (oper_ok ho) ht' (fun b L h1 h2 => hf b L h1 h2) hrun fun ρ' cv w' hv st => hK ρ' v cv w' hv rfl (step_flag st hl)
  · rename_i hw
    rw [if_neg hw]
    cases hr
    exact hK ρ undef undef w (vr_undef ρ) rfl (Step.refl h)
def Post (P : Program) (N : Nat) (ρ : Ren) (S : St) (w : World) (y : Exit) (e' : Env) (S' : St) (y' : Exit) (a' : Act) (w' : World) : Prop :=
  y' = y ∧ a'.defers = [] ∧ a'.tmps.size = N ∧ ∃ ρ', EnvR ρ' e' a' ∧ Step P ρ S w ρ' S' w'
theorem aops_sim {P : Program} {call : CallF} (hc : CallSim P call) {ops : Array Oper} {N : Nat} : ∀ (l : List Oper) (fl : List Bool) {ρ : Ren} {S S' : St} {w : World} {e e' : Env} {a : Act}, (∀ o ∈ l, okOper P N o = true) →
    Rel P ρ S w → S.WF → EnvR ρ e a → a.tmps.size = N → a.defers = [] → Fresh ρ S S' → aops P call ops l fl e S = some (e', S') → wpList P ops (Post P N ρ S w .normal e' S') l a w
  | [], fl, ρ, S, S', w, e, e', a, _, h, _, he, hN, hd, _, hr => by
    cases hr
    exact ⟨rfl, hd, hN, ρ, he, Step.refl h⟩
  | o :: r, fl, ρ, S, S', w, e, e', a, hok, h, hwf, he, hN, hd, hf, hr => by
    unfold aops at hr
    split at hr
    case h_2 => cases hr
    rename_i e1 S1 hst
    have hm := astep_mono hc hst
    have hm2 := aops_mono hc r fl.tail hr
    have ho := hok o (by simp)
    have key := astep_sim (Q := Post P N ρ S w .normal e' S') (K := wpList P ops (Post P N ρ S w .normal e' S') r) hc h hwf hN ho (fun t _ => he t) (hf.left hm2.next) hst (fun ρ' v cv w' hv e1' st => by
      subst e1'
      have ih := aops_sim hc r fl.tail (fun o' hm => hok o' (by simp [hm])) st.rel (hm.wf hwf) ((he.mono st.ext).put hN ho hv) ((put_size a o.dst cv).trans hN) ((put_defers a o.dst cv).trans hd) (hf.right st) hr
      have hmono : ∀ (l : List Oper) (a : Act) (w2 : World), wpList P ops (Post P N ρ' S1 w' .normal e' S') l a w2 → wpList P ops (Post P N ρ S w .normal e' S') l a w2 := by
        intro l
        induction l with
        | nil =>
          rintro a w2 ⟨q1, q2, q3, ρ2, q4, q5⟩
          exact ⟨q1, q2, q3, ρ2, q4, st.trans (hf.left hm2.next) q5⟩
        | cons o2 l ih2 =>
          intro a w2 hw
          unfold wpList at hw ⊢
          split
          · rename_i hwt
            rw [if_pos hwt] at hw
            rcases hw with hw | ⟨_, a0, w0, q⟩
            · left
              unfold Oper.wp at hw ⊢
              generalize (execOp a.eval o2).run P w2 = rr at hw ⊢
              cases rr with
              | ok n w3 =>
                cases n <;> simp only [Oper.upon] at hw ⊢ <;>
                  first
                  | exact ih2 _ _ hw
                  | exact Calls.mono hw (fun e3 w4 h4 => by
                      cases e3 with
                      | returned v => exact ih2 _ _ h4
                      | panicked c => cases h4.1
                      | outgrown => obtain ⟨_, _, h5⟩ := h4; cases h5.1)
                  | exact Rows.mono hw (fun v w4 h4 => ih2 _ _ h4)
                  | exact hw
              | halt hx w3 =>
                cases hx <;> simp only [Oper.upon] at hw ⊢
                cases hw.1
            · cases q.1
          · rename_i hwt
            rw [if_neg hwt] at hw
            exact ih2 _ _ hw
      exact hmono r _ _ ih)
    unfold wpList
    split
    · rename_i hw
      rw [if_pos hw] at key
      exact .inl key
    · rename_i hw
      rw [if_neg hw] at key
      exact key
end Go.Proofs.YtdmbgbennlnpcaaDoorAbs
namespace Go.Proofs.YtdmbgbennlnpcaaDoorAbs
set_option linter.unusedVariables false
set_option linter.unusedSimpArgs false
inductive Anc (ops : Array Oper) : Nat → Nat → Prop
  | edge (j : Nat) (o : Oper) (e : Edge) (h : ops[j]? = some o) (he : e ∈ o.after) (hb : Region.binds .any e = true) : Anc ops e.on j
  | trans (i m j : Nat) (h : Anc ops i m) (k : Anc ops m j) : Anc ops i j
def ancRow (acc : List Nat) (o : Oper) : Nat := o.after.toList.foldl (fun s e => if Region.binds .any e = true then (s ||| 2 ^ e.on) ||| acc.getD e.on 0 else s) 0
def ancs : List Oper → List Nat → List Nat
  | [], acc => acc
  | o :: r, acc => ancs r (acc ++ [ancRow acc o])
theorem ancRow_fold (acc : List Nat) (i : Nat) : ∀ (l : List Edge) (s : Nat), (l.foldl (fun s e => if Region.binds .any e = true then (s ||| 2 ^ e.on) ||| acc.getD e.on 0 else s) s).testBit i = true →
    s.testBit i = true ∨ ∃ e ∈ l, Region.binds .any e = true ∧ (i = e.on ∨ (acc.getD e.on 0).testBit i = true)
  | [], s, h => .inl h
  | e :: l, s, h => by
    rw [List.foldl_cons] at h
    rcases ancRow_fold acc i l _ h with h1 | ⟨e', h1, h2⟩
    · split at h1
      · rename_i hb
        rw [Nat.testBit_or, Nat.testBit_or, Nat.testBit_two_pow, Bool.or_eq_true, Bool.or_eq_true, decide_eq_true_eq] at h1
        rcases h1 with (h1 | h1) | h1
        · exact .inl h1
        · exact .inr ⟨e, by simp, hb, .inl h1.symm⟩
        · exact .inr ⟨e, by simp, hb, .inr h1⟩
      · exact .inl h1
    · exact .inr ⟨e', by simp [h1], h2⟩
theorem ancs_spec {ops : Array Oper} : ∀ (l : List Oper) (acc : List Nat), (∀ k, l[k]? = ops[acc.length + k]?) → (∀ j i, (acc.getD j 0).testBit i = true → Anc ops i j) → ∀ j i, ((ancs l acc).getD j 0).testBit i = true → Anc ops i j
  | [], acc, _, h => h
  | o :: r, acc, hk, h => by
    refine ancs_spec r _ (fun k => ?_) (fun j i hb => ?_)
    · have := hk (k + 1)
      simp only [List.getElem?_cons_succ] at this
      rw [this, List.length_append, List.length_singleton]
      congr 1
      omega
    · by_cases hj : j < acc.length
      · rw [List.getD_eq_getElem?_getD, List.getElem?_append_left hj, ← List.getD_eq_getElem?_getD] at hb
        exact h j i hb
      · by_cases hj2 : j = acc.length
        · subst hj2
          rw [List.getD_eq_getElem?_getD, List.getElem?_append_right (Nat.le_refl _), Nat.sub_self] at hb
          simp only [List.getElem?_cons_zero, Option.getD_some] at hb
          have ho : ops[acc.length]? = some o := by have := hk 0; simpa using this.symm
          rcases ancRow_fold acc i _ 0 hb with h1 | ⟨e, h1, h2, h3⟩
          · simp at h1
          · have he : Anc ops e.on acc.length := .edge _ o e ho (by simpa using h1) h2
            rcases h3 with h3 | h3
            · rw [h3]; exact he
            · exact .trans _ _ _ (h _ _ h3) he
        · rw [List.getD_eq_getElem?_getD, List.getElem?_append_right (by omega), List.getElem?_eq_none (by simp; omega)] at hb
          simp at hb
def isP : Op → Bool
  | .move _ => true
  | .assign _ => true
  | .pick _ _ _ => true
  | .nilCheck _ => true
  | .binOp _ _ _ _ _ => true
  | .unOp _ _ _ => true
  | .fieldAddr _ _ _ => true
  | .field _ _ _ => true
  | .indexAddr _ _ _ => true
  | .index _ _ _ => true
  | .makeInterface _ _ => true
  | .makeFunc _ _ _ => true
  | .typeAssert _ _ _ _ => true
  | .slice _ _ _ _ _ => true
  | .extract _ _ => true
  | .build _ _ => true
  | .call ⟨.builtin .len, _, _⟩ => true
  | .call ⟨.builtin .cap, _, _⟩ => true
  | .call ⟨.builtin .min, _, _⟩ => true
  | .call ⟨.builtin .max, _, _⟩ => true
  | _ => false
theorem pure_H {P : Program} {ev : Operand → Value} {op : Op} (h : isP op = true) : ∃ r : Option Value, ∀ S, aopH P ev op S = r.map fun v => (v, S) := by
  have some_ : ∀ v : Value, ∃ r : Option Value, ∀ S : St, (some (v, S) : Option (Value × St)) = r.map fun v => (v, S) := fun v => ⟨some v, fun _ => rfl⟩
  have none_ : ∃ r : Option Value, ∀ S : St, (none : Option (Value × St)) = r.map fun v => (v, S) := ⟨none, fun _ => rfl⟩
  cases op <;> simp only [isP] at h <;> simp only [aopH]
  case call c =>
    obtain ⟨callee, args, ts⟩ := c
    cases callee <;> simp only at h ⊢
    case builtin b =>
      cases b <;> simp only [isP] at h <;> unfold abuiltin <;> (repeat' split) <;> first | exact some_ _ | exact none_ | simp_all
    all_goals first | exact none_ | (simp at h)
  all_goals first
    | (cases h; done)
    | ((repeat' split) <;> first | exact some_ _ | exact none_)
theorem pure_run {P : Program} {call : CallF} {ev : Operand → Value} {o : Oper} {S S' : St} {v : Value} (h : isP o.op = true) (hr : arun P call ev o S = some (v, S')) : S' = S ∧ ∀ S2, arun P call ev o S2 = some (v, S2) := by
  have e1 : ∀ S, arun P call ev o S = aop P ev o S := by
    intro S
    unfold arun
    split
    · rename_i hop
      rw [hop] at h
      simp [isP] at h
    · rfl
  rw [e1] at hr
  obtain ⟨r, hH⟩ := pure_H (P := P) (ev := ev) h
  have e2 : ∀ S, aop P ev o S = match r with | some u => some (u, S) | none => ascalar P ev o S := by
    intro S
    unfold aop
    rw [hH]
    cases r <;> rfl
  have e3 : ∃ q : Option Value, ∀ S, ascalar P ev o S = q.map fun v => (v, S) := by
    unfold ascalar
    (repeat' split) <;> first | exact ⟨some _, fun _ => rfl⟩ | exact ⟨none, fun _ => rfl⟩
  obtain ⟨q, hq⟩ := e3
  rw [e2] at hr
  cases r with
  | some u => cases hr; exact ⟨rfl, fun S2 => by rw [e1, e2]⟩
  | none =>
    simp only at hr
    rw [hq] at hr
    cases q with
    | none => simp at hr
    | some u => simp at hr; obtain ⟨rfl, rfl⟩ := hr; exact ⟨rfl, fun S2 => by rw [e1, e2]; simp only; rw [hq]; rfl⟩
def fullB (ops : Array Oper) (an : List Nat) (i : Nat) : Bool :=
  (List.range ops.size).all fun j => j == i || (match ops[j]? with | some o => isP o.op | none => true) || (if j < i then (an.getD i 0).testBit j else (an.getD j 0).testBit i)
def barB (ops : Array Oper) (an : List Nat) (i : Nat) : Bool :=
  (match ops[i]? with | some o => !isP o.op | none => false) && fullB ops an i
def flagsOf (ops : Array Oper) : List Bool := (List.range ops.size).map fun i => !barB ops (ancs ops.toList []) i
def sharesB (ops : Array Oper) (x y : Oper) : Bool :=
  (match x.dst with | some d => (y.looksAt ops).contains d || y.dst == some d | none => false) || (match y.dst with | some d => (x.looksAt ops).contains d | none => false)
def drawOk (ops : Array Oper) : Bool :=
  (List.range ops.size).all fun j =>
    match ops[j]? with
    | none => true
    | some oj => oj.after.all (fun e => !Region.binds .any e || decide (e.on < j)) &&
      (List.range j).all fun i =>
        match ops[i]? with
        | none => true
        | some oi => !sharesB ops oi oj || ((ancs ops.toList []).getD j 0).testBit i
def cnt : Nat → Array Bool → Nat
  | 0, _ => 0
  | k + 1, l => cnt k l + if l.getD k false = true then 0 else 1
theorem getD_set {l : Array Bool} {i j : Nat} (hi : i < l.size) : (l.setIfInBounds i true).getD j false = if j = i then true else l.getD j false := by
  simp only [Array.getD_eq_getD_getElem?]
  by_cases e : j = i
  · subst e; simp [hi]
  · rw [if_neg e, Array.getElem?_setIfInBounds_ne (Ne.symm e)]
theorem cnt_out : ∀ (k : Nat) (l : Array Bool) {i : Nat}, i < l.size → k ≤ i → cnt k (l.setIfInBounds i true) = cnt k l
  | 0, _, _, _, _ => rfl
  | k + 1, l, i, hi, h => by
    unfold cnt
    rw [cnt_out k l hi (by omega)]
    simp only [getD_set hi, if_neg (show ¬ k = i by omega)]
theorem cnt_set : ∀ (k : Nat) (l : Array Bool) {i : Nat}, i < l.size → i < k → l.getD i false = false → cnt k (l.setIfInBounds i true) + 1 = cnt k l
  | 0, _, _, _, h, _ => absurd h (Nat.not_lt_zero _)
  | k + 1, l, i, hi, h, hu => by
    unfold cnt
    rw [getD_set hi]
    by_cases e : k = i
    · subst e
      rw [if_pos rfl, cnt_out k l hi (Nat.le_refl _), hu]
      simp
    · rw [if_neg e]
      have := cnt_set k l hi (by omega) hu
      omega
theorem cnt_zero : ∀ (k : Nat) (l : Array Bool), cnt k l = 0 → ∀ i, i < k → l.getD i false = true
  | 0, _, _, i, hi => absurd hi (Nat.not_lt_zero _)
  | k + 1, l, h, i, hi => by
    unfold cnt at h
    by_cases e : i = k
    · subst e
      by_cases q : l.getD i false = true
      · exact q
      · rw [if_neg q] at h; omega
    · exact cnt_zero k l (by omega) i (by omega)
theorem aops_trace {P : Program} {call : CallF} {ops : Array Oper} : ∀ (l : List Oper) (fl : List Bool) {e e' : Env} {S S' : St}, aops P call ops l fl e S = some (e', S') →
    ∃ (E : Nat → Env) (T : Nat → St), E 0 = e ∧ T 0 = S ∧ E l.length = e' ∧ T l.length = S' ∧ ∀ k o, l[k]? = some o → astep P call ops o (fl.getD k false) (E k) (T k) = some (E (k + 1), T (k + 1))
  | [], fl, e, e', S, S', h => by
    cases h
    exact ⟨fun _ => e, fun _ => S, rfl, rfl, rfl, rfl, fun k o q => by simp at q⟩
  | o :: r, fl, e, e', S, S', h => by
    unfold aops at h
    split at h
    case h_2 => cases h
    rename_i e1 S1 hst
    obtain ⟨E, T, h1, h2, h3, h4, h5⟩ := aops_trace r fl.tail h
    refine ⟨fun k => match k with | 0 => e | k + 1 => E k, fun k => match k with | 0 => S | k + 1 => T k, rfl, rfl, h3, h4, fun k o' q => ?_⟩
    cases k with
    | zero =>
      simp at q
      subst q
      simp only [h1, h2]
      have : fl.getD 0 false = fl.headD false := by cases fl <;> rfl
      rw [this]
      exact hst
    | succ k =>
      have := h5 k o' (by simpa using q)
      have e2 : fl.getD (k + 1) false = fl.tail.getD k false := by cases fl <;> simp
      rw [e2]
      exact this
end Go.Proofs.YtdmbgbennlnpcaaDoorAbs
namespace Go.Proofs.YtdmbgbennlnpcaaDoorAbs
set_option linter.unusedVariables false
set_option linter.unusedSimpArgs false
theorem Rel.lift {P : Program} {ρ : Ren} {S1 S2 : St} {w : World} (h : Rel P ρ S1 w) (hg : ∀ b L loc blk, ρ b L = some loc → S2.get b = some blk → S1.get b = some blk) : Rel P ρ S2 w :=
  ⟨h.glob, h.loc, fun b L loc blk k g => h.blk b L loc blk k (hg b L loc blk k g), fun b L loc b' L' loc' k k' o e a a' => h.inj b L loc b' L' loc' k k' o e
    (let ⟨blk, g1, g2⟩ := a; ⟨blk, hg b L loc blk k g1, g2⟩) (let ⟨blk, g1, g2⟩ := a'; ⟨blk, hg b' L' loc' blk k' g1, g2⟩)⟩
def TX (ops : Array Oper) (E : Nat → Env) (listed : Array Bool) : Nat → Tmp → Value
  | 0, t => (E 0).get t
  | k + 1, t => if listed.getD k false = true ∧ (ops[k]?).bind (·.dst) = some t then (E (k + 1)).get t else TX ops E listed k t
section
variable {P : Program} {call : CallF} {ops : Array Oper} {E : Nat → Env} {T : Nat → St} {N : Nat}
structure Draw (P : Program) (call : CallF) (ops : Array Oper) (E : Nat → Env) (T : Nat → St) (N : Nat) : Prop where
  cs : CallSim P call
  ok : ∀ o ∈ ops.toList, okOper P N o = true
  dr : drawOk ops = true
  tr : ∀ k o, ops[k]? = some o → astep P call ops o ((flagsOf ops).getD k false) (E k) (T k) = some (E (k + 1), T (k + 1))
  wf : (T 0).WF
theorem flag_at {i : Nat} (h : i < ops.size) : (flagsOf ops).getD i false = !barB ops (ancs ops.toList []) i := by
  unfold flagsOf
  rw [List.getD_eq_getElem?_getD, List.getElem?_map, List.getElem?_range h]
  rfl
theorem anc_of {i j : Nat} (h : ((ancs ops.toList []).getD j 0).testBit i = true) : Anc ops i j :=
  ancs_spec ops.toList [] (fun k => by simp) (fun j i hb => by simp at hb) j i h
theorem Draw.mono1 (d : Draw P call ops E T N) {k : Nat} (h : k < ops.size) : Mono (T k) (T (k + 1)) := astep_mono d.cs (d.tr k _ (Array.getElem?_eq_getElem h))
theorem Draw.mono (d : Draw P call ops E T N) {i : Nat} : ∀ {k : Nat}, i ≤ k → k ≤ ops.size → Mono (T i) (T k)
  | 0, h, _ => by
    obtain rfl : i = 0 := by omega
    exact Mono.refl _
  | k + 1, h, hk => by
    by_cases e : i = k + 1
    · subst e; exact Mono.refl _
    · exact (d.mono (by omega : i ≤ k) (by omega)).trans (d.mono1 (by omega))
theorem Draw.wfk (d : Draw P call ops E T N) {k : Nat} (h : k ≤ ops.size) : (T k).WF := (d.mono (Nat.zero_le k) h).wf d.wf
theorem Draw.agree1 (d : Draw P call ops E T N) {k : Nat} (h : k < ops.size) (hb : barB ops (ancs ops.toList []) k = false) : ∀ b, b < (T k).next → (T (k + 1)).get b = (T k).get b := by
  intro b hbn
  have ht := d.tr k _ (Array.getElem?_eq_getElem h)
  rw [flag_at h, hb, Bool.not_false] at ht
  unfold astep at ht
  split at ht
  · simp only at ht
    split at ht
    case h_2 => cases ht
    rename_i v S1 hrun
    split at ht
    case isFalse => cases ht
    rename_i hl
    have hm := arun_mono d.cs hrun
    simp only [Option.some.injEq, Prod.mk.injEq] at ht
    rw [← ht.2]
    exact hm.frame b hbn (Nat.lt_of_lt_of_le hbn hl)
  · simp only [Option.some.injEq, Prod.mk.injEq] at ht
    rw [← ht.2]
theorem Draw.agree (d : Draw P call ops E T N) {i : Nat} : ∀ {k : Nat}, i ≤ k → k ≤ ops.size → (∀ j, i ≤ j → j < k → barB ops (ancs ops.toList []) j = false) → ∀ b, b < (T i).next → (T k).get b = (T i).get b
  | 0, h, _, _, b, hb => by
    obtain rfl : i = 0 := by omega
    rfl
  | k + 1, h, hk, hn, b, hb => by
    by_cases e : i = k + 1
    · subst e; rfl
    · rw [d.agree1 (k := k) (by omega) (hn k (by omega) (by omega)) b (Nat.lt_of_lt_of_le hb (d.mono (by omega : i ≤ k) (by omega)).next)]
      exact d.agree (by omega : i ≤ k) (by omega) (fun j h1 h2 => hn j h1 (by omega)) b hb
theorem Draw.pureStep (d : Draw P call ops E T N) {k : Nat} {o : Oper} (ho : ops[k]? = some o) (hp : isP o.op = true ∨ wants ops o (E k) = false) : T (k + 1) = T k := by
  have ht := d.tr k o ho
  unfold astep at ht
  split at ht
  · rename_i hw
    have hp1 : isP o.op = true := hp.resolve_right (by rw [hw]; simp)
    cases hf : (flagsOf ops).getD k false with
    | false =>
      rw [hf] at ht
      simp only at ht
      split at ht
      case h_2 => cases ht
      rename_i v S1 hrun
      have := (pure_run hp1 hrun).1
      subst this
      simp only [Option.some.injEq, Prod.mk.injEq] at ht
      exact ht.2.symm
    | true =>
      rw [hf] at ht
      simp only at ht
      split at ht
      case h_2 => cases ht
      rename_i v S1 hrun
      split at ht
      case isFalse => cases ht
      have := (pure_run hp1 hrun).1
      subst this
      simp only [Option.some.injEq, Prod.mk.injEq] at ht
      exact ht.2.symm
  · simp only [Option.some.injEq, Prod.mk.injEq] at ht
    exact ht.2.symm
theorem Draw.put (d : Draw P call ops E T N) {k : Nat} {o : Oper} (ho : ops[k]? = some o) : ∃ v, E (k + 1) = (E k).putO o.dst v := by
  have ht := d.tr k o ho
  unfold astep at ht
  split at ht
  · split at ht
    · split at ht
      · simp only [Option.some.injEq, Prod.mk.injEq] at ht
        exact ⟨_, ht.1.symm⟩
      · cases ht
    · split at ht
      · split at ht
        · simp only [Option.some.injEq, Prod.mk.injEq] at ht
          exact ⟨_, ht.1.symm⟩
        · cases ht
      · cases ht
  · simp only [Option.some.injEq, Prod.mk.injEq] at ht
    exact ⟨_, ht.1.symm⟩
theorem Draw.get_ne (d : Draw P call ops E T N) {k : Nat} (hk : k < ops.size) {t : Tmp} (h : (ops[k]?).bind (·.dst) ≠ some t) : (E (k + 1)).get t = (E k).get t := by
  have ho := Array.getElem?_eq_getElem hk
  obtain ⟨v, e⟩ := d.put ho
  rw [e]
  rw [ho] at h
  simp only [Option.bind_some] at h
  cases hd : (ops[k]).dst with
  | none => rfl
  | some s =>
    rw [putO_get, if_neg]
    intro q
    subst q
    exact h hd
theorem Draw.tx_all (d : Draw P call ops E T N) {listed : Array Bool} {t : Tmp} : ∀ {m : Nat}, m ≤ ops.size → (∀ j, j < m → (ops[j]?).bind (·.dst) = some t → listed.getD j false = true) → TX ops E listed m t = (E m).get t
  | 0, _, _ => rfl
  | m + 1, hm, h => by
    unfold TX
    split
    · rfl
    · rename_i hc
      have hd : (ops[m]?).bind (·.dst) ≠ some t := fun q => hc ⟨h m (by omega) q, q⟩
      rw [d.get_ne (by omega) hd]
      exact d.tx_all (by omega) (fun j hj => h j (by omega))
theorem tx_none {listed : Array Bool} {t : Tmp} {m : Nat} : ∀ {k : Nat}, m ≤ k → (∀ j, m ≤ j → j < k → (ops[j]?).bind (·.dst) = some t → listed.getD j false = false) → TX ops E listed k t = TX ops E listed m t
  | 0, h, _ => by
    obtain rfl : m = 0 := by omega
    rfl
  | k + 1, h, hn => by
    by_cases e : m = k + 1
    · subst e; rfl
    · rw [TX, if_neg]
      · exact tx_none (by omega : m ≤ k) (fun j h1 h2 => hn j h1 (by omega))
      · rintro ⟨h1, h2⟩
        rw [hn k (by omega) (by omega) h2] at h1
        cases h1
theorem tx_set {listed : Array Bool} {i : Nat} (hi : i < listed.size) {t : Tmp} (h : (ops[i]?).bind (·.dst) ≠ some t) : ∀ (k : Nat), TX ops E (listed.setIfInBounds i true) k t = TX ops E listed k t
  | 0 => rfl
  | k + 1 => by
    unfold TX
    rw [getD_set hi, tx_set hi h k]
    by_cases e : k = i
    · subst e
      rw [if_neg (fun q => h q.2), if_neg (fun q => h q.2)]
    · rw [if_neg e]
structure DInv (P : Program) (ops : Array Oper) (E : Nat → Env) (T : Nat → St) (N : Nat) (ρ0 : Ren) (w0 : World) (fuel : Nat) (listed : Array Bool) (ρ : Ren) (m : Nat) (a : Act) (w : World) : Prop where
  size : listed.size = ops.size
  count : cnt ops.size listed = fuel
  down : ∀ i j, Anc ops i j → listed.getD j false = true → listed.getD i false = true
  mle : m ≤ ops.size
  mbar : m = ops.size ∨ (barB ops (ancs ops.toList []) m = true ∧ listed.getD m false = false)
  mlow : ∀ i, i < m → barB ops (ancs ops.toList []) i = true → listed.getD i false = true
  step : Step P ρ0 (T 0) w0 ρ (T m) w
  keys : ∀ k, k < ops.size → listed.getD k false = false → ∀ b L, (T k).next ≤ b → b < (T (k + 1)).next → ρ b L = none
  tmps : ∀ t, VR ρ (TX ops E listed ops.size t) (a.tmps.getD t undef)
  tsz : a.tmps.size = N
  defers : a.defers = []
theorem bar_full {i : Nat} (h : barB ops (ancs ops.toList []) i = true) : (∃ o, ops[i]? = some o ∧ isP o.op = false) ∧ ∀ j o, j ≠ i → ops[j]? = some o → isP o.op = false → (j < i → Anc ops j i) ∧ (i < j → Anc ops i j) := by
  unfold barB at h
  rw [Bool.and_eq_true] at h
  obtain ⟨h1, h2⟩ := h
  refine ⟨?_, fun j o hj ho hp => ?_⟩
  · cases ho : ops[i]? with
    | none => rw [ho] at h1; cases h1
    | some o => rw [ho] at h1; exact ⟨o, rfl, by simpa using h1⟩
  · unfold fullB at h2
    rw [List.all_eq_true] at h2
    have hjs : j < ops.size := (Array.getElem?_eq_some_iff.1 ho).1
    have := h2 j (List.mem_range.2 hjs)
    simp only [ho, hp, Bool.or_false, Bool.or_eq_true, beq_iff_eq, hj, false_or] at this
    constructor
    · intro hlt
      rw [if_pos hlt] at this
      exact anc_of this
    · intro hlt
      rw [if_neg (by omega)] at this
      exact anc_of this
theorem draw_edges (d : Draw P call ops E T N) {j : Nat} {o : Oper} (ho : ops[j]? = some o) {e : Edge} (he : e ∈ o.after) (hb : Region.binds .any e = true) : e.on < j := by
  have hd := d.dr
  unfold drawOk at hd
  rw [List.all_eq_true] at hd
  have := hd j (List.mem_range.2 (Array.getElem?_eq_some_iff.1 ho).1)
  simp only [ho, Bool.and_eq_true] at this
  have h1 := this.1
  rw [Array.all_eq_true_iff_forall_mem] at h1
  have := h1 e he
  simpa [hb] using this
theorem draw_shares (d : Draw P call ops E T N) {i j : Nat} {oi oj : Oper} (hij : i < j) (hi : ops[i]? = some oi) (hj : ops[j]? = some oj) (hs : sharesB ops oi oj = true) : Anc ops i j := by
  have hd := d.dr
  unfold drawOk at hd
  rw [List.all_eq_true] at hd
  have := hd j (List.mem_range.2 (Array.getElem?_eq_some_iff.1 hj).1)
  simp only [hj, Bool.and_eq_true] at this
  have h2 := this.2
  rw [List.all_eq_true] at h2
  have := h2 i (List.mem_range.2 hij)
  simp only [hi, hs, Bool.not_true, Bool.false_or] at this
  exact anc_of this
theorem draw_all (d : Draw P call ops E T N) {ρ0 : Ren} {w0 : World} (hf0 : Fresh ρ0 (T 0) (T ops.size)) {Q : Exit → Act → World → Prop}
    (hQ : ∀ ρ a w, EnvR ρ (E ops.size) a → a.tmps.size = N → a.defers = [] → Step P ρ0 (T 0) w0 ρ (T ops.size) w → Q .normal a w) :
    ∀ (fuel : Nat) (listed : Array Bool) (ρ : Ren) (m : Nat) (a : Act) (w : World), DInv P ops E T N ρ0 w0 fuel listed ρ m a w → wpAny P .any ops Q fuel listed a w := by
  intro fuel
  induction fuel with
  | zero =>
    intro listed ρ m a w I
    have hall := cnt_zero ops.size listed I.count
    refine ⟨?_, ?_⟩
    · cases hr : Region.ready .any ops listed with
      | nil => rfl
      | cons x xs =>
        exfalso
        have hx : x ∈ Region.ready .any ops listed := by rw [hr]; simp
        obtain ⟨h0, o, ho, _⟩ := mem_ready.1 hx
        have hlt : x < ops.size := (Array.getElem?_eq_some_iff.1 ho).1
        have h1 := hall x hlt
        have : x < listed.size := by rw [I.size]; exact hlt
        simp only [Array.getD_eq_getD_getElem?, Array.getElem?_eq_getElem this, Option.getD_some] at h0 h1
        rw [h0] at h1
        cases h1
    · have hm : m = ops.size := by
        rcases I.mbar with e | ⟨h1, h2⟩
        · exact e
        · by_cases hlt : m < ops.size
          · rw [hall m hlt] at h2; cases h2
          · have := I.mle; omega
      subst hm
      refine hQ ρ a w (fun t => ?_) I.tsz I.defers I.step
      rw [← d.tx_all (Nat.le_refl _) (fun j hj _ => hall j hj)]
      exact I.tmps t
  | succ fuel ih =>
    intro listed ρ m a w I
    refine ⟨fun hr => ?_, fun i hi => ?_⟩
    · -- somebody is always ready: the first that has not been carried out
      exfalso
      have hex : ∃ i, i < ops.size ∧ listed.getD i false = false ∧ ∀ j, j < i → listed.getD j false = true := by
        have key : ∀ k, cnt k listed ≠ 0 → ∃ i, i < k ∧ listed.getD i false = false ∧ ∀ j, j < i → listed.getD j false = true := by
          intro k
          induction k with
          | zero => intro h; exact absurd rfl h
          | succ k ihk =>
            intro h
            by_cases q : cnt k listed = 0
            · refine ⟨k, by omega, ?_, cnt_zero k listed q⟩
              by_cases q2 : listed.getD k false = true
              · unfold cnt at h; rw [q, if_pos q2] at h; exact absurd rfl h
              · simpa using q2
            · obtain ⟨i, h1, h2, h3⟩ := ihk q
              exact ⟨i, by omega, h2, h3⟩
        exact key ops.size (by rw [I.count]; omega)
      obtain ⟨i, h1, h2, h3⟩ := hex
      have : i ∈ Region.ready .any ops listed := by
        rw [mem_ready]
        refine ⟨?_, _, Array.getElem?_eq_getElem h1, fun e he hb => h3 e.on (draw_edges d (Array.getElem?_eq_getElem h1) he hb)⟩
        have hls : i < listed.size := by rw [I.size]; exact h1
        simp only [Array.getD_eq_getD_getElem?, Array.getElem?_eq_getElem hls, Option.getD_some] at h2 ⊢
        exact h2
      rw [hr] at this
      cases this
    · obtain ⟨hun0, o, ho, hedges⟩ := mem_ready.1 hi
      have hlt : i < ops.size := (Array.getElem?_eq_some_iff.1 ho).1
      have hls : i < listed.size := by rw [I.size]; exact hlt
      have hun : listed.getD i false = false := by
        simp only [Array.getD_eq_getD_getElem?, Array.getElem?_eq_getElem hls, Option.getD_some] at hun0 ⊢
        exact hun0
      have hanc : ∀ k, Anc ops k i → listed.getD k false = true := by
        intro k hk
        generalize hi' : i = i' at hk
        induction hk with
        | edge j o' e h he hb =>
          subst hi'
          rw [ho] at h
          cases h
          exact hedges e he hb
        | trans k0 m0 j h k ih1 ih2 =>
          subst hi'
          exact I.down _ _ h (ih2 rfl)
      have hokO : okOper P N o = true := d.ok o (by simpa using Array.mem_of_getElem? ho)
      -- the temporaries that it looks at
      have hlook : ∀ t, t ∈ o.looksAt ops → VR ρ ((E i).get t) (a.tmps.getD t undef) := by
        intro t ht
        have h1 : TX ops E listed ops.size t = TX ops E listed i t := tx_none (Nat.le_of_lt hlt) fun j hj hjs hd => by
          by_cases e : j = i
          · subst e; exact hun
          · cases hoj : ops[j]? with
            | none => rw [hoj] at hd; cases hd
            | some oj =>
              rw [hoj] at hd
              simp only [Option.bind_some] at hd
              have := draw_shares d (by omega : i < j) ho hoj (by unfold sharesB; rw [hd]; simp [ht])
              by_cases q : listed.getD j false = true
              · have := I.down _ _ this q
                rw [hun] at this; cases this
              · simpa using q
        have h2 : TX ops E listed i t = (E i).get t := d.tx_all (Nat.le_of_lt hlt) fun j hj hd => by
          cases hoj : ops[j]? with
          | none => rw [hoj] at hd; cases hd
          | some oj =>
            rw [hoj] at hd
            simp only [Option.bind_some] at hd
            exact hanc j (draw_shares d hj hoj ho (by unfold sharesB; rw [hd]; simp [ht]))
        rw [← h2, ← h1]
        exact I.tmps t
      -- those who come behind it and write what it writes
      have hafter : ∀ t, o.dst = some t → ∀ j, i < j → (ops[j]?).bind (·.dst) = some t → listed.getD j false = false := by
        intro t ht j hj hd
        cases hoj : ops[j]? with
        | none => rw [hoj] at hd; cases hd
        | some oj =>
          rw [hoj] at hd
          simp only [Option.bind_some] at hd
          have := draw_shares d hj ho hoj (by unfold sharesB; rw [ht, hd]; simp)
          by_cases q : listed.getD j false = true
          · have := I.down _ _ this q
            rw [hun] at this; cases this
          · simpa using q
      have htm := d.tr i o ho
      -- the new temporaries
      have newtmps : ∀ ρ' v cv, ρ.le ρ' → VR ρ' v cv → E (i + 1) = (E i).putO o.dst v → ∀ t, VR ρ' (TX ops E (listed.setIfInBounds i true) ops.size t) ((a.put o.dst cv).tmps.getD t undef) := by
        intro ρ' v cv hle hv he t
        by_cases hd : o.dst = some t
        · have h1 : TX ops E (listed.setIfInBounds i true) ops.size t = TX ops E (listed.setIfInBounds i true) (i + 1) t := tx_none (by omega) fun j hj hjs hdj => by
            rw [getD_set hls, if_neg (by omega)]
            exact hafter t hd j (by omega) hdj
          have hlt2 : t < N := by
            have := hokO
            unfold okOper at this
            rw [hd] at this
            simp only [Bool.and_eq_true, decide_eq_true_eq] at this
            exact this.2
          rw [h1, TX, if_pos ⟨by rw [getD_set hls, if_pos rfl], by rw [ho]; exact hd⟩, he, hd, putO_get, if_pos rfl, put_get a cv (I.tsz ▸ hlt2), if_pos rfl]
          exact hv
        · have hd2 : (ops[i]?).bind (·.dst) ≠ some t := by rw [ho]; exact hd
          rw [tx_set hls hd2]
          have e1 : (a.put o.dst cv).tmps.getD t undef = a.tmps.getD t undef := by
            cases hdd : o.dst with
            | none => rfl
            | some s =>
              have hlt2 : s < N := by
                have := hokO
                unfold okOper at this
                rw [hdd] at this
                simp only [Bool.and_eq_true, decide_eq_true_eq] at this
                exact this.2
              rw [put_get a cv (I.tsz ▸ hlt2), if_neg]
              intro q
              subst q
              exact hd hdd
          rw [e1]
          exact (I.tmps t).mono hle
      have newdown : ∀ i' j', Anc ops i' j' → (listed.setIfInBounds i true).getD j' false = true → (listed.setIfInBounds i true).getD i' false = true := by
        intro i' j' hA hj'
        rw [getD_set hls] at hj' ⊢
        split
        · rfl
        · split at hj'
          · rename_i e
            subst e
            exact hanc i' hA
          · exact I.down i' j' hA hj'
      have newcount : cnt ops.size (listed.setIfInBounds i true) = fuel := by
        have := cnt_set ops.size listed hls hlt hun
        have := I.count
        omega
      have newsize : (listed.setIfInBounds i true).size = ops.size := by simp [I.size]
      have mono0 : ∀ k, k ≤ ops.size → (T 0).next ≤ (T k).next := fun k hk => (d.mono (Nat.zero_le k) hk).next
      have hagain : ∀ ρ' m' v cv w', ρ.le ρ' → VR ρ' v cv → E (i + 1) = (E i).putO o.dst v → m' ≤ ops.size → (m' = ops.size ∨ (barB ops (ancs ops.toList []) m' = true ∧ (listed.setIfInBounds i true).getD m' false = false)) →
          (∀ j, j < m' → barB ops (ancs ops.toList []) j = true → (listed.setIfInBounds i true).getD j false = true) → Step P ρ0 (T 0) w0 ρ' (T m') w' →
          (∀ b L loc, ρ' b L = some loc → ρ b L = none → (T i).next ≤ b ∧ b < (T (i + 1)).next ∨ ∀ k, k < ops.size → k ≠ i → listed.getD k false = false → ¬ ((T k).next ≤ b ∧ b < (T (k + 1)).next)) →
          wpAny P .any ops Q fuel (listed.setIfInBounds i true) (a.put o.dst cv) w' := by
        intro ρ' m' v cv w' hle hv he hm1 hm2 hm3 hst hnew
        refine ih _ ρ' m' _ w' ⟨newsize, newcount, newdown, hm1, hm2, hm3, hst, fun k hk hku b L hb1 hb2 => ?_, newtmps ρ' v cv hle hv he, (put_size a o.dst cv).trans I.tsz, (put_defers a o.dst cv).trans I.defers⟩
        rw [getD_set hls] at hku
        split at hku
        · cases hku
        · rename_i hki
          have h0 := I.keys k hk hku b L hb1 hb2
          cases hc : ρ' b L with
          | none => rfl
          | some loc =>
            exfalso
            rcases hnew b L loc hc h0 with ⟨g1, g2⟩ | g
            · rcases Nat.lt_or_gt_of_ne hki with q | q
              · have := (d.mono (show k + 1 ≤ i by omega) (by omega)).next
                omega
              · have := (d.mono (show i + 1 ≤ k by omega) (by omega)).next
                omega
            · exact g k hk hki hku ⟨hb1, hb2⟩
      have hkeep : m ≠ i → (m = ops.size ∨ (barB ops (ancs ops.toList []) m = true ∧ (listed.setIfInBounds i true).getD m false = false)) := fun hmi => I.mbar.imp id fun ⟨h1, h2⟩ => ⟨h1, by rw [getD_set hls, if_neg hmi]; exact h2⟩
      have hkeep2 : ∀ j, j < m → barB ops (ancs ops.toList []) j = true → (listed.setIfInBounds i true).getD j false = true := fun j hj hb => by
        rw [getD_set hls]
        split
        · rfl
        · exact I.mlow j hj hb
      have hfm : Fresh ρ0 (T 0) (T m) := hf0.left (d.mono I.mle (Nat.le_refl _)).next
      unfold wpOp
      simp only [ho]
      rw [wants_eq hlook]
      by_cases hmi : m = i
      · -- the next barrier is carried out
        subst hmi
        have hbar : barB ops (ancs ops.toList []) m = true := by
          rcases I.mbar with e | h
          · omega
          · exact h.1
        obtain ⟨_, hfull⟩ := bar_full hbar
        have hex : ∀ q k, q + k = ops.size → ∃ m', k ≤ m' ∧ m' ≤ ops.size ∧ (m' = ops.size ∨ barB ops (ancs ops.toList []) m' = true) ∧ ∀ j, k ≤ j → j < m' → barB ops (ancs ops.toList []) j = false := by
          intro q
          induction q with
          | zero => intro k hk; exact ⟨k, Nat.le_refl _, by omega, .inl (by omega), fun j h1 h2 => by omega⟩
          | succ q ihq =>
            intro k hk
            cases hb : barB ops (ancs ops.toList []) k with
            | true => exact ⟨k, Nat.le_refl _, by omega, .inr hb, fun j h1 h2 => by omega⟩
            | false =>
              obtain ⟨m', h1, h2, h3, h4⟩ := ihq (k + 1) (by omega)
              refine ⟨m', by omega, h2, h3, fun j g1 g2 => ?_⟩
              by_cases e : j = k
              · subst e; exact hb
              · exact h4 j (by omega) g2
        obtain ⟨m', g1, g2, g3, g4⟩ := hex (ops.size - (m + 1)) (m + 1) (by omega)
        have gbar : m' = ops.size ∨ (barB ops (ancs ops.toList []) m' = true ∧ (listed.setIfInBounds m true).getD m' false = false) := by
          rcases g3 with e | hb
          · exact .inl e
          · by_cases e : m' = ops.size
            · exact .inl e
            · right
              refine ⟨hb, ?_⟩
              rw [getD_set hls, if_neg (by omega)]
              obtain ⟨⟨o', ho', hp'⟩, _⟩ := bar_full hb
              by_cases q : listed.getD m' false = true
              · have := I.down _ _ ((hfull m' o' (by omega) ho' hp').2 (by omega)) q
                rw [hun] at this; cases this
              · simpa using q
        have glow : ∀ j, j < m' → barB ops (ancs ops.toList []) j = true → (listed.setIfInBounds m true).getD j false = true := fun j hj hb => by
          rw [getD_set hls]
          split
          · rfl
          · rename_i hjm
            by_cases q : j < m
            · exact I.mlow j q hb
            · rw [g4 j (by omega) hj] at hb; cases hb
        have gmono := d.mono g1 g2
        have gagree := d.agree g1 g2 g4
        -- what the barrier does
        have after : ∀ ρ' v cv w', VR ρ' v cv → E (m + 1) = (E m).putO o.dst v → Step P ρ (T m) w ρ' (T (m + 1)) w' → wpAny P .any ops Q fuel (listed.setIfInBounds m true) (a.put o.dst cv) w' := by
          intro ρ' v cv w' hv he st
          have st2 := I.step.trans hfm st
          have nokey : ∀ b L loc, ρ' b L = some loc → (T (m + 1)).next ≤ b → b < (T m').next → False := by
            intro b L loc hb h1 h2
            -- it lies in the range of an operation between
            have hrange : ∀ q k, m + 1 ≤ k → k + q = m' → (T k).next ≤ b → ∃ j, k ≤ j ∧ j < m' ∧ (T j).next ≤ b ∧ b < (T (j + 1)).next := by
              intro q
              induction q with
              | zero =>
                intro k _ hk hb0
                have e : k = m' := by omega
                subst e
                omega
              | succ q ihq =>
                intro k hk1 hk hb0
                by_cases e : b < (T (k + 1)).next
                · exact ⟨k, Nat.le_refl _, by omega, hb0, e⟩
                · obtain ⟨j, a1, a2, a3, a4⟩ := ihq (k + 1) (by omega) (by omega) (by omega)
                  exact ⟨j, by omega, a2, a3, a4⟩
            obtain ⟨j, a1, a2, a3, a4⟩ := hrange (m' - (m + 1)) (m + 1) (Nat.le_refl _) (by omega) h1
            have hjo := Array.getElem?_eq_getElem (show j < ops.size by omega)
            have hun2 : listed.getD j false = false := by
              by_cases q : listed.getD j false = true
              · cases hp : isP (ops[j]'(by omega)).op with
                | true =>
                  have := d.pureStep hjo (.inl hp)
                  rw [this] at a4
                  omega
                | false =>
                  have := I.down _ _ ((hfull j _ (by omega) hjo hp).2 (by omega)) q
                  rw [hun] at this; cases this
              · simpa using q
            have h0 := I.keys j (by omega) hun2 b L a3 a4
            obtain ⟨a5, _⟩ := st.new b L loc hb h0
            have := (d.mono1 hlt).next
            omega
          refine hagain ρ' m' v cv w' st.ext hv he g2 gbar glow ?_ ?_
          · refine ⟨st2.ext, st2.env, st2.rel.lift fun b L loc blk k g => ?_, st2.hsz, mono0 m' g2, (d.mono (Nat.zero_le m') g2).low, fun b L loc h1 h2 => ?_, fun mm B hm1 hm2 hB hk => ?_⟩
            · by_cases q : b < (T (m + 1)).next
              · rw [← gagree b q]; exact g
              · by_cases q2 : b < (T m').next
                · exact (nokey b L loc k (by omega) q2).elim
                · rw [d.wfk g2 b (by omega)] at g
                  cases g
            · obtain ⟨a1, a2⟩ := st2.new b L loc h1 h2
              have i1 := gmono.next
              have i2 := gmono.low
              refine ⟨by clear a2; omega, ?_⟩
              rcases a2 with a2 | ⟨b0, L0, loc0, c0, c4, c1⟩
              · exact .inl a2
              · exact .inr ⟨b0, L0, loc0, c0, Nat.le_trans i2 c4, c1⟩
            · exact st2.keep mm B hm1 (Nat.le_trans hm2 gmono.low) hB hk
          · intro b L loc h1 h2
            obtain ⟨a1, _⟩ := st.new b L loc h1 h2
            rcases a1 with a1 | a1
            · exact .inl a1
            · right
              intro k hk hkm hku
              rintro ⟨c1, c2⟩
              have hko := Array.getElem?_eq_getElem hk
              cases hp : isP (ops[k]).op with
              | true =>
                have := d.pureStep hko (.inl hp)
                rw [this] at c2
                omega
              | false =>
                by_cases q : k < m
                · have := hanc k ((hfull k _ hkm hko hp).1 q)
                  rw [hku] at this; cases this
                · have := (d.mono (show m ≤ k by omega) (by omega)).next
                  have := a1.1
                  omega
        split
        · rename_i hw
          left
          have hfl : (flagsOf ops).getD m false = false := by rw [flag_at hlt, hbar]; rfl
          rw [hfl] at htm
          unfold astep at htm
          rw [if_pos hw] at htm
          simp only at htm
          split at htm
          case h_2 => cases htm
          rename_i v S1 hrun
          simp only [Option.some.injEq, Prod.mk.injEq] at htm
          obtain ⟨he, hT⟩ := htm
          subst hT
          exact run_sim d.cs I.step.rel (d.wfk (Nat.le_of_lt hlt)) (oper_ok hokO) (fun t hm => hlook t (List.mem_append_left _ (List.mem_filterMap.2 ⟨.tmp t, by simpa using hm, rfl⟩))) (fun b L h1 h2 => I.keys m hlt hun b L h1 h2) hrun fun ρ' cv w' hv st => after ρ' v cv w' hv he.symm st
        · rename_i hw
          unfold astep at htm
          rw [if_neg hw] at htm
          simp only [Option.some.injEq, Prod.mk.injEq] at htm
          obtain ⟨he, hT⟩ := htm
          exact after ρ undef undef w (vr_undef ρ) he.symm (hT ▸ Step.refl I.step.rel)
      · -- it is no barrier
        have hnb : barB ops (ancs ops.toList []) i = false := by
          cases hb : barB ops (ancs ops.toList []) i with
          | false => rfl
          | true =>
            exfalso
            by_cases q : i < m
            · rw [I.mlow i q hb] at hun; cases hun
            · rcases I.mbar with e | ⟨h1, h2⟩
              · omega
              · obtain ⟨⟨o', ho', hp'⟩, _⟩ := bar_full hb
                rw [ho] at ho'
                cases ho'
                have := hanc m (((bar_full h1).2 i o (Ne.symm hmi) ho hp').2 (by omega))
                rw [this] at h2; cases h2
        have hfl : (flagsOf ops).getD i false = true := by rw [flag_at hlt, hnb]; rfl
        split
        · rename_i hw
          left
          rw [hfl] at htm
          unfold astep at htm
          rw [if_pos hw] at htm
          simp only at htm
          split at htm
          case h_2 => cases htm
          rename_i v S1 hrun
          split at htm
          case isFalse => cases htm
          rename_i hl
          simp only [Option.some.injEq, Prod.mk.injEq] at htm
          obtain ⟨he, hT⟩ := htm
          have hops : ∀ t, Operand.tmp t ∈ o.op.operands → VR ρ ((E i).get t) (a.tmps.getD t undef) := fun t hm => hlook t (List.mem_append_left _ (List.mem_filterMap.2 ⟨.tmp t, by simpa using hm, rfl⟩))
          cases hp : isP o.op with
          | true =>
            obtain ⟨_, hany⟩ := pure_run hp hrun
            refine run_sim (S := (T m).withLow (T m).next) (S' := (T m).withLow (T m).next) d.cs (I.step.rel.same rfl rfl) (d.wfk I.mle) (oper_ok hokO) hops (fun b L h1 h2 => absurd h2 (Nat.not_lt_of_le h1)) (hany _) fun ρ' cv w' hv st => ?_
            have st2 := step_flag st (Nat.le_refl _)
            refine hagain ρ' m v cv w' st.ext hv he.symm I.mle (hkeep hmi) hkeep2 (I.step.trans hfm st2) ?_
            intro b L loc h1 h2
            obtain ⟨a1, _⟩ := st.new b L loc h1 h2
            exfalso
            rcases a1 with ⟨c1, c2⟩ | ⟨c1, c2⟩
            · exact absurd c2 (Nat.not_lt_of_le c1)
            · exact absurd c1 (Nat.not_lt_of_le c2)
          | false =>
            have him : i < m := by
              rcases I.mbar with e | ⟨h1, h2⟩
              · omega
              · by_cases q : i < m
                · exact q
                · exfalso
                  have := hanc m (((bar_full h1).2 i o (Ne.symm hmi) ho hp).2 (by omega))
                  rw [this] at h2; cases h2
            -- no barrier lies between
            have hnone : ∀ j, i ≤ j → j < m → barB ops (ancs ops.toList []) j = false := by
              intro j h1 h2
              cases hb : barB ops (ancs ops.toList []) j with
              | false => rfl
              | true =>
                exfalso
                have hji : j ≠ i := fun e => by rw [e, hnb] at hb; cases hb
                have := I.down _ _ (((bar_full hb).2 i o (Ne.symm hji) ho hp).1 (by omega)) (I.mlow j h2 hb)
                rw [hun] at this; cases this
            have agr1 := d.agree (Nat.le_of_lt him) I.mle hnone
            have agr2 := d.agree (show i + 1 ≤ m by omega) I.mle (fun j h1 h2 => hnone j (by omega) h2)
            have mono2 := d.mono (show i + 1 ≤ m by omega) I.mle
            have rel_i : Rel P ρ (T i) w := I.step.rel.lift fun b L loc blk k g => by
              have hb : b < (T i).next := by
                by_cases q : b < (T i).next
                · exact q
                · rw [d.wfk (Nat.le_of_lt hlt) b (by omega)] at g
                  cases g
              rw [agr1 b hb]; exact g
            have hfr : Fresh ρ ((T i).withLow (T i).next) S1 := fun b L h1 h2 => by
              refine I.keys i hlt hun b L h1 ?_
              rw [← hT]
              exact h2
            refine run_sim (S := (T i).withLow (T i).next) (S' := S1) d.cs (rel_i.same rfl rfl) (d.wfk (Nat.le_of_lt hlt)) (oper_ok hokO) hops hfr hrun fun ρ' cv w' hv st => ?_
            have heap : ∀ B, B < w.heap.size → w'.heap[B]? = w.heap[B]? := fun B hB => st.keep (T i).next B (Nat.le_refl _) hl hB fun b L loc _ _ h1 h2 => absurd h2 (Nat.not_lt_of_le h1)
            have hnx : (T (i + 1)).next = S1.next := by rw [← hT]; rfl
            have hgt : (T (i + 1)).get = S1.get := by rw [← hT]; rfl
            have hnew : ∀ b L loc, ρ' b L = some loc → ρ b L = none → (T i).next ≤ b ∧ b < (T (i + 1)).next := by
              intro b L loc h1 h2
              obtain ⟨a1, _⟩ := st.new b L loc h1 h2
              rcases a1 with ⟨c1, c2⟩ | ⟨c1, c2⟩
              · exact ⟨c1, by rw [hnx]; exact c2⟩
              · exact absurd (Nat.lt_of_lt_of_le c1 hl) (Nat.not_lt_of_le c2)
            refine hagain ρ' m v cv w' st.ext hv he.symm I.mle (hkeep hmi) hkeep2 ?_ (fun b L loc h1 h2 => .inl (hnew b L loc h1 h2))
            have hnewB : ∀ b L loc, ρ' b L = some loc → ρ b L = none → w.heap.size ≤ loc.B := by
              intro b L loc h1 h2
              rcases (st.new b L loc h1 h2).2 with a2 | ⟨b0, L0, loc0, c0, c4, _⟩
              · exact a2
              · exact absurd (Nat.lt_of_lt_of_le (show b0 < (T i).next from c0) hl) (Nat.not_lt_of_le c4)
            refine ⟨Ren.le_trans I.step.ext st.ext, I.step.env.trans st.env, ⟨st.rel.glob, st.rel.loc, fun b L loc blk k g => ?_, fun b1 L1 l1 b2 L2 l2 k1 k2 o e al1 al2 => ?_⟩, Nat.le_trans I.step.hsz st.hsz, I.step.next, I.step.low, fun b L loc h1 h2 => ?_, fun mm B hm1 hm2 hB hk => ?_⟩
            · by_cases q : b < (T (i + 1)).next
              · rw [agr2 b q, hgt] at g
                exact st.rel.blk b L loc blk k g
              · cases hc : ρ b L with
                | none => have := (hnew b L loc k hc).2; omega
                | some loc' =>
                  have e := st.ext _ _ _ hc
                  rw [k] at e
                  cases e
                  have r := I.step.rel.blk b L loc blk hc g
                  have hB := I.step.rel.loc b L loc hc
                  refine ⟨r.own, fun ow => ?_, fun al j u h1 h2 h3 => ?_, fun o e => by rw [heap _ hB]; exact r.all o e⟩
                  · obtain ⟨q1, q2, q3, C, fr, q4, q5⟩ := r.row ow
                    exact ⟨q1, q2, q3, C, fr, by rw [heap _ hB]; exact q4, q5⟩
                  · obtain ⟨A, u', e1, e2, e3⟩ := r.cells al j u h1 h2 h3
                    refine ⟨A, u', e1, ?_, e3.mono st.ext⟩
                    unfold World.cell? at *
                    rw [heap _ hB]
                    exact e2
            · -- no two blocks lie in one
              have alS1 : ∀ {b L}, b < (T (i + 1)).next → Alive (T m) b L → Alive S1 b L := by
                rintro b L hb ⟨blk, g1, g2⟩
                rw [agr2 b hb, hgt] at g1
                exact ⟨blk, g1, g2⟩
              cases hc1 : ρ b1 L1 with
              | some l1' =>
                have e1 := st.ext _ _ _ hc1
                rw [k1] at e1
                cases e1
                cases hc2 : ρ b2 L2 with
                | some l2' =>
                  have e2 := st.ext _ _ _ hc2
                  rw [k2] at e2
                  cases e2
                  exact I.step.rel.inj _ _ _ _ _ _ hc1 hc2 o e al1 al2
                | none =>
                  have := hnewB _ _ _ k2 hc2
                  have := I.step.rel.loc _ _ _ hc1
                  omega
              | none =>
                cases hc2 : ρ b2 L2 with
                | some l2' =>
                  have e2 := st.ext _ _ _ hc2
                  rw [k2] at e2
                  cases e2
                  have := hnewB _ _ _ k1 hc1
                  have := I.step.rel.loc _ _ _ hc2
                  omega
                | none => exact st.rel.inj _ _ _ _ _ _ k1 k2 o e (alS1 (hnew _ _ _ k1 hc1).2 al1) (alS1 (hnew _ _ _ k2 hc2).2 al2)
            · cases hc : ρ b L with
              | some loc' =>
                have e := st.ext _ _ _ hc
                rw [h1] at e
                cases e
                exact I.step.new b L loc hc h2
              | none =>
                obtain ⟨a1, a2⟩ := st.new b L loc h1 hc
                have hn := hnew b L loc h1 hc
                have := mono0 i (Nat.le_of_lt hlt)
                have := mono2.next
                exact ⟨.inl ⟨by clear a2; omega, by clear a2; omega⟩, .inl (Nat.le_trans I.step.hsz (hnewB b L loc h1 hc))⟩
            · rw [heap B (Nat.lt_of_lt_of_le hB I.step.hsz)]
              exact I.step.keep mm B hm1 hm2 hB hk
        · rename_i hw
          unfold astep at htm
          rw [if_neg hw] at htm
          simp only [Option.some.injEq, Prod.mk.injEq] at htm
          exact hagain ρ m undef undef w (Ren.le_refl ρ) (vr_undef ρ) htm.1.symm I.mle (hkeep hmi) hkeep2 I.step (fun b L loc h1 h2 => by rw [h1] at h2; cases h2)
end
end Go.Proofs.YtdmbgbennlnpcaaDoorAbs
