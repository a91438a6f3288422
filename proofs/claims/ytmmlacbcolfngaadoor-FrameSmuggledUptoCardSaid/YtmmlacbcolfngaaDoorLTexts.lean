/- Plain Lean on what the printed functions answer (Texts); for all arguments that the lemmas name. -/
import Derived.Test.YtmmlacbcolfngaaDoorQ0
import Derived.Test.YtmmlacbcolfngaaDoorLNumbers
import Derived.IntWalk
import Derived.Test.YtmmlacbcolfngaaDoorQCharsstub2
import Derived.Test.YtmmlacbcolfngaaDoorQChars4
import Derived.Test.YtmmlacbcolfngaaDoorQTurnstileref014
namespace Go.Proofs.YtmmlacbcolfngaaDoor.Q
open Go.RowKit Go.Proofs.YtmmlacbcolfngaaDoorW.PrintWords Go.Proofs.YtmmlacbcolfngaaDoorW.PrintLast Go.Proofs.YtmmlacbcolfngaaDoorW.PrintMore
set_option linter.unusedVariables false
set_option linter.unusedSimpArgs false
theorem dgs_len (b : Nat) : ∀ (f n : Nat) (acc : List UInt8), (dgs b f n acc).length ≤ f + acc.length
  | 0, n, acc => by simp [dgs]
  | f + 1, n, acc => by
    unfold dgs
    split
    · simp; omega
    · have := dgs_len b f (n / b) (dch (n % b) :: acc)
      simp at this
      omega
def digL (b n : Nat) : List UInt8 := dgs b 20 n []
theorem digits_f (n : Nat) (b : Nat) (hn : n < 18446744073709551616) (hb : 10 ≤ b) (hb2 : b ≤ 16) : chars_digits.f (n : Int) (b : Int) = some ⟨(digL b n).toArray⟩ := by
  unfold chars_digits.f digL
  rw [if_pos (by omega)]
  simp
def absN (a : Int) : Nat := a.natAbs
def textL (a : Int) : List UInt8 := if a < 0 then 45 :: digL 10 a.natAbs else digL 10 a.natAbs
theorem u64_of_neg {a : Int} (h0 : a < 0) (h1 : -9223372036854775808 ≤ a) : IntKind.u64.wrap (-(IntKind.u64.wrap a)) = (a.natAbs : Int) := by
  have e : ∀ n : Int, IntKind.u64.wrap n = n % 18446744073709551616 := fun n => by simp [IntKind.wrap, IntKind.bits, IntKind.signed]
  rw [e, e]
  omega
theorem u64_of_nonneg {a : Int} (h0 : 0 ≤ a) (h1 : a ≤ 9223372036854775807) : IntKind.u64.wrap a = (a.natAbs : Int) := by
  rw [IntWalk.u64_in _ (by omega)]
  omega
theorem text_f (a : Int) (h0 : -9223372036854775808 ≤ a) (h1 : a ≤ 9223372036854775807) : chars_Text.f a = some ⟨(textL a).toArray⟩ := by
  unfold chars_Text.f textL
  by_cases h : a < 0
  · have hl := dgs_len 10 20 a.natAbs []
    rw [if_pos h, if_pos h, u64_of_neg h h0]
    show ((chars_digits.f (a.natAbs : Int) ((10 : Nat) : Int)).bind _) = _
    rw [digits_f _ 10 (by omega) (by omega) (by omega), Option.bind_some, mk_size]
    rw [if_pos (by unfold digL; simp at hl; omega)]
    congr 1
  · rw [if_neg h, if_neg h, u64_of_nonneg (by omega) h1]
    show ((chars_digits.f (a.natAbs : Int) ((10 : Nat) : Int)).bind _) = _
    rw [digits_f _ 10 (by omega) (by omega) (by omega), Option.bind_some]
theorem cut_dig (m : Nat) (h : m < 16) : ((⟨#[48, 49, 50, 51, 52, 53, 54, 55, 56, 57, 97, 98, 99, 100, 101, 102]⟩ : ByteArray).extract m (m + 1)).data.toList = [dch m] := by
  have : ∀ q : Fin 16, ((⟨#[48, 49, 50, 51, 52, 53, 54, 55, 56, 57, 97, 98, 99, 100, 101, 102]⟩ : ByteArray).extract q.val (q.val + 1)).data.toList = [dch q.val] := by decide +kernel
  exact this ⟨m, h⟩
theorem told_l0 (b : Nat) (hb : 10 ≤ b) (hb2 : b ≤ 16) : ∀ (f n : Nat) (s : ByteArray), n < b ^ (f + 1) → n < 18446744073709551616 → s.size + f + 1 ≤ 100 → Ev (fun k => turnstileref01_told.l0 k (n : Int) (b : Int) s) (⟨(dgs b (f + 1) n s.data.toList).toArray⟩ : ByteArray) := by
  intro f
  induction f with
  | zero =>
    intro n s hn hn2 hs
    have hnb : n < b := by simpa using hn
    have hm : n % b < 16 := by have := Nat.mod_lt n (show 0 < b by omega); omega
    have ht : Int.tmod (n : Int) (b : Int) = ((n % b : Nat) : Int) := rfl
    have hd : Int.tdiv (n : Int) (b : Int) = ((n / b : Nat) : Int) := rfl
    have hdl : n / b ≤ n := Nat.div_le_self n b
    refine Ev.step (fun k => by rw [turnstileref01_told.l0]) ?_
    rw [ht, hd]
    generalize hq : n / b = q at hdl
    generalize hr : n % b = r at hm
    have hq0 : q = 0 := by rw [← hq]; exact Nat.div_eq_of_lt hnb
    subst hq0
    rw [IntWalk.u64_in ((r : Int) + 1) (by omega), IntWalk.u64_in ((0 : Nat) : Int) (by omega)]
    rw [show ((r : Int)).toNat = r by omega, show ((r : Int) + 1).toNat = r + 1 by omega]
    have hc := cut_dig r hm
    generalize (⟨#[48, 49, 50, 51, 52, 53, 54, 55, 56, 57, 97, 98, 99, 100, 101, 102]⟩ : ByteArray).extract r (r + 1) = x at hc
    have hx : x.size = 1 := by rw [← ba_len, hc]; rfl
    simp only [if_neg (show ¬ (b : Int) = 0 by omega), if_pos (show (0 : Int) ≤ (r : Int) by omega), if_pos (show (r : Int) ≤ (r : Int) + 1 by omega), if_pos (show (r : Int) + 1 ≤ 16 by omega), if_pos (show x.size + s.size ≤ 9223372036854775807 by omega), if_pos (show ((0 : Nat) : Int) = 0 from rfl)]
    have e : (⟨(dgs b 1 n s.data.toList).toArray⟩ : ByteArray) = x ++ s := by
      apply ba_ext
      simp only [dgs, hq, hr, if_true]
      simp [hc]
    rw [e]
    exact Ev.now _
  | succ f ih =>
    intro n s hn hn2 hs
    have hm : n % b < 16 := by have := Nat.mod_lt n (show 0 < b by omega); omega
    have ht : Int.tmod (n : Int) (b : Int) = ((n % b : Nat) : Int) := rfl
    have hd : Int.tdiv (n : Int) (b : Int) = ((n / b : Nat) : Int) := rfl
    have hdl : n / b ≤ n := Nat.div_le_self n b
    have hdb : n / b < b ^ (f + 1) := dig_lt n b (f + 1) hb hn
    refine Ev.step (fun k => by rw [turnstileref01_told.l0]) ?_
    rw [ht, hd]
    have ih' := fun s => ih (n / b) s hdb (by omega)
    have hexp : dgs b (f + 1 + 1) n s.data.toList = if n / b = 0 then dch (n % b) :: s.data.toList else dgs b (f + 1) (n / b) (dch (n % b) :: s.data.toList) := by rw [dgs]
    rw [hexp]
    clear hexp ih hdb
    generalize n / b = q at hdl ih'
    generalize n % b = r at hm
    rw [IntWalk.u64_in ((r : Int) + 1) (by omega), IntWalk.u64_in (q : Int) (by omega)]
    rw [show ((r : Int)).toNat = r by omega, show ((r : Int) + 1).toNat = r + 1 by omega]
    have hc := cut_dig r hm
    generalize (⟨#[48, 49, 50, 51, 52, 53, 54, 55, 56, 57, 97, 98, 99, 100, 101, 102]⟩ : ByteArray).extract r (r + 1) = x at hc
    have hx : x.size = 1 := by rw [← ba_len, hc]; rfl
    have hxs : (x ++ s).size = s.size + 1 := by rw [← ba_len]; simp [hx]; omega
    have e : (x ++ s).data.toList = dch r :: s.data.toList := by simp [hc]
    simp only [if_neg (show ¬ (b : Int) = 0 by omega), if_pos (show (0 : Int) ≤ (r : Int) by omega), if_pos (show (r : Int) ≤ (r : Int) + 1 by omega), if_pos (show (r : Int) + 1 ≤ 16 by omega), if_pos (show x.size + s.size ≤ 9223372036854775807 by omega)]
    by_cases hq : q = 0
    · simp only [if_pos (show (q : Int) = 0 by omega), if_pos hq]
      have e2 : (⟨(dch r :: s.data.toList).toArray⟩ : ByteArray) = x ++ s := ba_ext (by rw [e])
      rw [e2]
      exact Ev.now _
    · simp only [if_neg (show ¬ (q : Int) = 0 by omega), if_neg hq]
      have := ih' (x ++ s) (by omega)
      rwa [e] at this
theorem told_ev (n b : Nat) (hb : 10 ≤ b) (hb2 : b ≤ 16) (hn : n < 18446744073709551616) : Ev (fun k => turnstileref01_told.f k (n : Int) (b : Int)) (⟨(digL b n).toArray⟩ : ByteArray) := by
  unfold turnstileref01_told.f digL
  exact told_l0 b hb hb2 19 n ⟨#[]⟩ (dig_top n b hb hn) hn (by decide)
theorem rtext_ev (a : Int) (h0 : -9223372036854775808 ≤ a) (h1 : a ≤ 9223372036854775807) : Ev (fun k => turnstileref01_Text.f k a) (⟨(textL a).toArray⟩ : ByteArray) := by
  unfold turnstileref01_Text.f textL
  by_cases h : a < 0
  · have hl := dgs_len 10 20 a.natAbs []
    simp only [if_pos h, u64_of_neg h h0]
    refine Ev.bind (told_ev a.natAbs 10 (by omega) (by omega) (by omega)) ?_
    rw [mk_size]
    rw [if_pos (show 1 + (digL 10 a.natAbs).length ≤ 9223372036854775807 by unfold digL; simp at hl; omega)]
    have e : (⟨(45 :: digL 10 a.natAbs).toArray⟩ : ByteArray) = (⟨#[45]⟩ : ByteArray) ++ ⟨(digL 10 a.natAbs).toArray⟩ := by apply ba_ext; simp
    rw [e]
    exact Ev.now _
  · simp only [if_neg h, u64_of_nonneg (show 0 ≤ a by omega) h1]
    exact Ev.bind (told_ev a.natAbs 10 (by omega) (by omega) (by omega)) (Ev.now _)

end Go.Proofs.YtmmlacbcolfngaaDoor.Q
