/- What a head's reader answers on all bytes at once, in plain words. By hand. -/
import Derived.Test.YtmmlacbcolfngaaDoorHRdParse
namespace Go.Proofs.YtmmlacbcolfngaaDoor.Q
open Go.RowKit Go.Proofs.YtmmlacbcolfngaaDoorW.PrintWords Go.Proofs.YtmmlacbcolfngaaDoorW.PrintLast Go.Proofs.YtmmlacbcolfngaaDoorW.PrintMore
set_option linter.unusedVariables false
set_option linter.unusedSimpArgs false

theorem byte_asks (s : RdSt) (c : Int) : (s.byte c).1.asks = s.asks := by
  unfold RdSt.byte
  split
  · rfl
  · split
    · exact (fld_near _ _).asks
    · split
      · exact (req_near _ _).asks
      · exact (stat_near _ _).asks
theorem feed_keep : ∀ (bs : List Int) (s : RdSt), s.OK → (s.feed bs).1.OK ∧ (s.feed bs).1.asks = s.asks
  | [], s, h => ⟨h, rfl⟩
  | c :: l, s, h => by
    rw [RdSt.feed]
    split
    · have k := feed_keep l {(s.byte c).1 with err := (s.byte c).2} (byte_ok s c h)
      exact ⟨k.1, k.2.trans (byte_asks s c)⟩
    · exact ⟨h, rfl⟩

/-- What a reader has read, or the error. -/
def RdSt.res {α : Type} (s : RdSt) (bs : List Int) (no : Int → α) (yes : RdSt → Int → α) : α :=
  match (s.feed bs).1.err with
  | some x => no x
  | none => if (s.feed bs).1.at_ = 11 then yes (s.feed bs).1 (s.feed bs).2 else no 32
/-- The two ways. -/
theorem res_cases {α : Type} (s : RdSt) (bs : List Int) (no : Int → α) (yes : RdSt → Int → α) (h : s.OK) :
    (∃ x, s.all bs = (0, some x) ∧ s.res bs no yes = no x) ∨ (∃ n, s.all bs = (n, none) ∧ (s.feed bs).1.done s.asks = true ∧ (s.feed bs).1.field.length ≤ 1000000 ∧ s.res bs no yes = yes (s.feed bs).1 n) := by
  have hk := feed_keep bs s h
  unfold RdSt.res RdSt.all
  cases he : (s.feed bs).1.err with
  | some x => exact .inl ⟨x, rfl, rfl⟩
  | none =>
    by_cases ha : (s.feed bs).1.at_ = 11
    · simp only [if_pos ha]
      refine .inr ⟨_, rfl, ?_, ?_, rfl⟩
      · unfold RdSt.done
        rw [he, ha, hk.2]
        simp
      · have h1 := hk.1.field
        have h2 := hk.1.in_ he
        have h3 := hk.1.most
        omega
    · simp only [if_neg ha]
      exact .inl ⟨32, rfl, rfl⟩

end Go.Proofs.YtmmlacbcolfngaaDoor.Q
