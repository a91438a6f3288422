/- Plain Lean on what the printed functions answer (Wr2); for all arguments that the lemmas name. -/
import Derived.Test.YtmmlacbcolfngaaDoorQ0
import Derived.Test.YtmmlacbcolfngaaDoorLWr
import Derived.Test.YtmmlacbcolfngaaDoorQHeadstub
namespace Go.Proofs.YtmmlacbcolfngaaDoor.Q
open Go.RowKit Go.Proofs.YtmmlacbcolfngaaDoorW.PrintWords Go.Proofs.YtmmlacbcolfngaaDoorW.PrintLast Go.Proofs.YtmmlacbcolfngaaDoorW.PrintMore
set_option linter.unusedVariables false
set_option linter.unusedSimpArgs false
def Rng (l : List Int) : Prop := ∀ x, x ∈ l → 0 ≤ x ∧ x ≤ 255
theorem rng_bytes (s : ByteArray) : Rng (bytesOf s) := by
  intro x hx
  obtain ⟨b, _, rfl⟩ := List.mem_map.1 hx
  exact byte_range b
theorem rng_app {l m : List Int} (h : Rng l) (k : Rng m) : Rng (l ++ m) := fun x hx => (List.mem_append.1 hx).elim (h x) (k x)
theorem rng_cons {a : Int} {l : List Int} (h : 0 ≤ a ∧ a ≤ 255) (k : Rng l) : Rng (a :: l) := fun x hx => (List.mem_cons.1 hx).elim (fun e => e ▸ h) (k x)
theorem rng_nil : Rng [] := fun x hx => by cases hx
theorem rng_ver (m : Int) (h : m = 0 ∨ m = 1) : Rng (verL m) := by rcases h with rfl | rfl <;> (unfold verL Rng; decide)
theorem rng_line (f : S67) : Rng (lineL f) := rng_app (rng_app (rng_app (rng_bytes _) (by unfold Rng; decide)) (rng_bytes _)) (by unfold Rng; decide)
theorem rng_lines (l : List S67) : Rng (l.flatMap lineL) := by
  induction l with
  | nil => exact rng_nil
  | cons f l ih => rw [List.flatMap_cons]; exact rng_app (rng_line f) ih
theorem rng_head {a : List Int} (h : Rng a) (l : List S67) : Rng (headL a l ++ [10]) := rng_app (rng_app (rng_app (rng_app h (by unfold Rng; decide)) (rng_lines l)) (by unfold Rng; decide)) (by unfold Rng; decide)
theorem rng_req (qm qt : ByteArray) (m : Int) (h : m = 0 ∨ m = 1) : Rng (reqL qm qt m) := rng_app (rng_app (rng_app (rng_app (rng_bytes _) (by unfold Rng; decide)) (rng_bytes _)) (by unfold Rng; decide)) (rng_ver m h)
structure WrFact (qm qt : ByteArray) (m : Int) (l : List S67) : Prop where
  m0 : bytesOf qm ≠ []
  m1 : ∀ c ∈ bytesOf qm, isTok c = true
  t0 : bytesOf qt ≠ []
  t1 : ∀ c ∈ bytesOf qt, isVis c = true
  v : m = 0 ∨ m = 1
  n : l.length ≤ 64
  ok : ∀ f ∈ l, FineF f
theorem fineB_ok {l : List S67} (h : fineB l = true) : l.length ≤ 64 ∧ ∀ f ∈ l, FineF f := by
  unfold fineB at h
  simp only [Bool.and_eq_true, decide_eq_true_eq] at h
  exact ⟨h.1, fun f hf => fineF_ok (List.all_eq_true.1 h.2 f hf)⟩
theorem wrOk_fact {qm qt : ByteArray} {m : Int} {l : List S67} (h : wrOk qm qt m l = true) : WrFact qm qt m l := by
  unfold wrOk at h
  simp only [Bool.and_eq_true, decide_eq_true_eq] at h
  obtain ⟨⟨⟨⟨⟨⟨a, b⟩, c⟩, d⟩, e⟩, f⟩, g⟩ := h
  have k := fineB_ok g
  exact ⟨bytes_ne b, tokL_mem a, bytes_ne c, fun x hx => by simpa [kindK] using allB_mem d x hx, by omega, k.1, k.2⟩
theorem wr_eats {qm qt : ByteArray} {m : Int} {l : List S67} (h : WrFact qm qt m l) (most : Int) (hl : ((headL (reqL qm qt m) l).length : Int) ≤ most) :
    ∃ t, Eats (RdSt.new most true 0) (headL (reqL qm qt m) l) t ∧ Live {t with field := []} 10 true ∧ t.most = most ∧ t.len = (headL (reqL qm qt m) l).length ∧ t.qm = qm ∧ t.qt = qt ∧ t.qn = m ∧ t.field = l :=
  eats_request most qm qt m l h.m0 h.m1 h.t0 h.t1 h.v h.n h.ok hl
theorem parse_written {qm qt : ByteArray} {m : Int} {l : List S67} (h : WrFact qm qt m l) (most : Int) (hm : most ≤ 65536) (hl : ((headL (reqL qm qt m) l ++ [10]).length : Int) ≤ most) :
    head_ParseRequest.f (headL (reqL qm qt m) l ++ [10]) most = some (qm, qt, m, l, ((headL (reqL qm qt m) l ++ [10]).length : Int), none) := by
  have hl' : ((headL (reqL qm qt m) l).length : Int) + 1 ≤ most := by
    rw [List.length_append] at hl
    simpa using hl
  obtain ⟨t, e, L, q1, q2, q3, q4, q5, q6⟩ := wr_eats h most (by omega)
  have F := feed_whole e L (by rw [q6]; exact h.n) (by rw [q1, q2]; exact hl') []
  unfold head_ParseRequest.f
  rw [if_pos ⟨by omega, rng_head (rng_req _ _ _ h.v) l⟩, if_neg (by omega)]
  unfold RdSt.res
  rw [F]
  have te : t.err = none := L.err
  simp only [te, if_true, q3, q4, q5, q6, List.length_append, List.length_cons, List.length_nil, Nat.zero_add]
theorem parse_over {qm qt : ByteArray} {m : Int} {l : List S67} (h : WrFact qm qt m l) (most : Int) (hm : most ≤ 65536) (hm1 : 1 ≤ most) (hl : ((headL (reqL qm qt m) l ++ [10]).length : Int) = most + 1) :
    ∃ a b c d e, head_ParseRequest.f (headL (reqL qm qt m) l ++ [10]) most = some (a, b, c, d, e, some 22) := by
  have hl' : ((headL (reqL qm qt m) l).length : Int) = most := by
    rw [List.length_append] at hl
    simp at hl
    omega
  obtain ⟨t, e, L, q1, q2, q3, q4, q5, q6⟩ := wr_eats h most (by omega)
  have F := feed_over e L (by rw [q1, q2]; omega) []
  refine ⟨(⟨#[]⟩ : ByteArray), (⟨#[]⟩ : ByteArray), 0, [], 0, ?_⟩
  unfold head_ParseRequest.f
  rw [if_pos ⟨by omega, rng_head (rng_req _ _ _ h.v) l⟩, if_neg (by omega)]
  unfold RdSt.res
  rw [F]

end Go.Proofs.YtmmlacbcolfngaaDoor.Q
