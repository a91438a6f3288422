/- FrameSmuggled: the law's walk on the runner, and its plain part; for every input of bulk at most 1048576. -/
import Derived.Test.YtmmlacbcolfngaaDoorFsPure
namespace Go.Proofs.YtmmlacbcolfngaaDoor.Q
open Go.Proofs.YtmmlacbcolfngaaDoorAbs Go.RowKit Go.Proofs.YtmmlacbcolfngaaDoorW.PrintWords Go.Proofs.YtmmlacbcolfngaaDoorW.PrintLast Go.Proofs.YtmmlacbcolfngaaDoorW.PrintMore
set_option linter.unusedVariables false
set_option linter.unusedSimpArgs false
theorem mixed : Tryd.prog.follows .mixedOrders = true := by kernel_rfl
theorem enc67_at : ∀ (l : List S67) (j : Nat) (v : Value), (l.flatMap enc67)[j]? = some v → ∃ p, l[j / 2]? = some p ∧ (enc67 p)[j % 2]? = some v
  | [], j, v, h => by simp at h
  | x :: l, 0, v, h => ⟨x, rfl, h⟩
  | x :: l, 1, v, h => ⟨x, rfl, h⟩
  | x :: l, j + 2, v, h => by
    rw [List.flatMap_cons] at h
    have h' : (l.flatMap enc67)[j]? = some v := h
    obtain ⟨p, h1, h2⟩ := enc67_at l j v h'
    refine ⟨p, ?_, by rw [Nat.add_mod_right]; exact h2⟩
    rw [show (j + 2) / 2 = j / 2 + 1 by omega]
    simpa using h1
theorem enc67_mem (p : S67) (i : Nat) (v : Value) (h : (enc67 p)[i]? = some v) : leaf v = true := by
  match i, h with
  | 0, h => cases h; rfl
  | 1, h => cases h; rfl
theorem enc67_nil (l : List S67) : l.length = 0 ↔ l.flatMap enc67 = [] := by
  cases l with
  | nil => simp
  | cons x l => simp [enc67]
/-- The first global is errors' handle, the second a number. -/
def gl67 (m : Int) : Nat → Option (List Value)
  | 0 => some [geV]
  | 1 => some [.int .i64 m]
  | _ => none
theorem sure_ev : Go.Proofs.YtmmlacbcolfngaaDoorW.PrintWords.Ev (fun k => turnstilelaw11_sure.f k) true := Go.Proofs.YtmmlacbcolfngaaDoorW.PrintWords.Ev.of (fun k => turnstilelaw11_sure.mono _) (k := 40) (by decide +kernel)
theorem FrameSmuggled_calls (A0 : Option Addr) (c0 : Nat) (l0 : List S67) (x0 x1 wh : Int) (w : World) (hr0 : Kd.C k67 w A0 l0.length l0) (hc0 : l0.length ≤ c0) (hl : l0.length ≤ 1048576) (hf : FOk 1048576 l0) (hG : 4 < w.heap.size) (hGE : GlobE w) (hGM : GlobM w) :
    Calls Tryd.prog 8 #[.slice A0 l0.length c0, .agg #[.int .i64 x0, .int .i64 x1], .int .i64 wh] w fun e w' => e = .returned (.bool true) ∧ Below w.heap.size w w' := by
  obtain ⟨m, hm⟩ := hGM
  have st0 : Go.Proofs.YtmmlacbcolfngaaDoorAbs.Start Tryd.prog (Ren.start Tryd.prog.globals.size) (St.start Tryd.prog.globals.size (gl67 m)) w := by
    refine start0 (gl67 m) (by rw [nglob]; exact hG) fun g cs hg hgl j v hj => ?_
    match g, hgl with
    | 0, hgl =>
      cases hgl
      match j, hj with
      | 0, hj =>
        cases hj
        refine ⟨_, hGE, ?_⟩
        refine .iface _ _ _ (VR.agg' (VRL.cons ?_ (VRL.nil _)))
        exact .ptr 4 31 0 31 ⟨4, 0, 0, 0, 0, false⟩ (by rw [nglob]; rfl) (Nat.zero_le _) (by decide)
    | 1, hgl =>
      cases hgl
      match j, hj with
      | 0, hj =>
        cases hj
        exact ⟨_, hm, .leaf _ rfl⟩
  rw [nglob] at st0
  obtain ⟨ρ, hle, st, hv⟩ := st0.row 2 (l0.flatMap enc67) A0 l0.length c0 hc0 (enc67_nil l0) fun hpos => by
    obtain ⟨ad, e, hcell⟩ := hr0.2.2 hpos
    refine ⟨ad, e, fun j v hj => ?_⟩
    obtain ⟨p, h1, h2⟩ := enc67_at l0 j v hj
    obtain ⟨c, _, hK, hc⟩ := hcell (j / 2) p h1
    have ec := k67_open hK
    subst ec
    refine ⟨v, ?_, .leaf _ (enc67_mem p _ v h2)⟩
    have := hc (j % 2) v h2
    rwa [show j / 2 * k67.sz + j % 2 = j from Nat.div_add_mod' j 2] at this
  have hb5 : ((St.start 4 (gl67 m)).theirs (l0.flatMap enc67)).get 5 = some ⟨l0.flatMap enc67, 0, false, 0⟩ := by simp [St.theirs, St.start]
  have hge : isGE ((St.start 4 (gl67 m)).theirs (l0.flatMap enc67)) = true := by
    have : ((St.start 4 (gl67 m)).theirs (l0.flatMap enc67)).get 0 = some ⟨[geV], 0, false, 0⟩ := by simp [St.theirs, St.start, gl67]
    unfold isGE
    rw [this]
    rfl
  have hgm : isGM ((St.start 4 (gl67 m)).theirs (l0.flatMap enc67)) = true := by
    have : ((St.start 4 (gl67 m)).theirs (l0.flatMap enc67)).get 1 = some ⟨[.int .i64 m], 0, false, 0⟩ := by simp [St.theirs, St.start, gl67]
    unfold isGM
    rw [this]
  refine st.law prims_sim mixed rfl ?_ (law_walk l0 x0 x1 wh ((St.start 4 (gl67 m)).theirs (l0.flatMap enc67)) 5 hb5 (show 5 < 4 + 1 + 1 by decide) (show 1 < 4 + 1 + 1 by decide) hge hgm hl (fun j n h0 h1 => sm_A l0 hl hf j n h0 h1) (fun j n m h0 h1 h2 h3 => sm_B l0 hl hf j n m h0 h1 h2 h3) ?_)
  · exact VRL.cons hv (VRL.cons (VR.scalar (by simp [scalar, leaf])) (VRL.cons (VR.scalar rfl) (VRL.nil _)))
  · exact sure_ev
end Go.Proofs.YtmmlacbcolfngaaDoor.Q
