/- What the law BodyFeeds needs, part 8: the runner over a plain memory, words, the functions that it reaches, each by its own contract; for the inputs that each theorem names. -/
import Derived.Test.YtdfgdpjlbcnkfaaGreatDoorBodyFeedsP7
import Derived.Test.YtdfgdpjlbcnkfaaGreatDoorBodyFeedsP6
namespace Go.Proofs.YtdfgdpjlbcnkfaaGreatDoor.Q
open Go Go.Proofs.YtdfgdpjlbcnkfaaGreatDoorAbs Go.Proofs Go.RowKit Go.Proofs.YtdfgdpjlbcnkfaaGreatDoorW.PrintWords
set_option linter.unusedVariables false
set_option linter.unusedSimpArgs false
def by8 (x:List Int):List UInt8:=x.map fun y=>y.toNat.toUInt8
theorem row_sl {S:St} {l0:List Int} (h:∀ x ∈ l0,0≤x∧x<256):Sl (S.theirs (l0.map (Value.int .u8))) (.slice (some ⟨S.next,0,some 0⟩) l0.length (UNK+1)) (by8 l0):=by
  have hlen:(by8 l0).length=l0.length:=by simp [by8]
  refine ⟨some ⟨S.next,0,some 0⟩,UNK+1,by rw [hlen],(fun q=>by cases q),fun _=>⟨S.next,0,0,u8v (by8 l0),0,false,0,rfl,.inl rfl,?_,(fun q=>by cases q),?_,Nat.lt_succ_self _⟩⟩
  · have:=u8_of l0 h
    simp only [by8]
    rw [← this];simp [St.theirs]
  · rw [List.drop_zero]
    exact List.take_of_length_le (by simp [u8v])
theorem sl_more {S S':St} {v:Value} {xs:List UInt8} (h:Sl S v xs) (hn:S.next≤S'.next) (hg:∀ j,j<S.next→S'.get j=S.get j):Sl S' v xs :=
  sl_kept h (o':=none) ⟨hn,fun i hi _=>hg i hi⟩ (by simp)
theorem rows_start {w:World}:∀ (l:List (List Int)) (f:Nat→Option Value) {ρ:Ren} {S:St},Go.Proofs.YtdfgdpjlbcnkfaaGreatDoorAbs.Start Tryz.prog ρ S w→(∀ (j:Nat) (x:List Int),l[j]? = some x→∃ A c,f j=some (.slice A x.length c)∧x.length≤c∧Kd.C (Kd.int .u8) w A x.length x)→(∀ x ∈ l,∀ y ∈ x,0≤y∧y<256) →
    ∃ (ρ':Ren) (S':St) (vs:List Value),ρ.le ρ'∧YtdfgdpjlbcnkfaaGreatDoorAbs.Start Tryz.prog ρ' S' w∧S.next≤S'.next∧(∀ j,j<S.next→S'.get j=S.get j)∧vs.length=l.length∧∀ (j:Nat) (v:Value),vs[j]? = some v→∃ x v',l[j]? = some x∧f j=some v'∧VR ρ' v v'∧Sl S' v (by8 x)∧∀ i,blkOf v=some i→i<S'.next
  | [],f,ρ,S,st,_,_=>⟨ρ,S,[],Ren.le_refl ρ,st,Nat.le_refl _,fun _ _=>rfl,rfl,fun j v h=>by simp at h⟩
  | x :: l,f,ρ,S,st,hf,hb=>by
    obtain ⟨A,c,hf0,hc,hr⟩:=hf 0 x rfl
    obtain ⟨ρ1,hle1,st1,hv1⟩:=st.row 1 (x.map (Value.int .u8)) A x.length c hc (by simp) (row_leaf hr)
    obtain ⟨ρ2,S2,vs,hle2,st2,hn2,hg2,hl2,h2⟩:=rows_start l (fun j=>f (j+1)) st1 (fun j y hy=>hf (j+1) y hy) (fun y hy=>hb y (by simp [hy]))
    have hn1:(S.theirs (x.map (Value.int .u8))).next=S.next+1:=rfl
    refine ⟨ρ2,S2,.slice (some ⟨S.next,0,some 0⟩) x.length (UNK+1) :: vs,Ren.le_trans hle1 hle2,st2,by omega,fun j hj=>?_,by simp [hl2],fun j v hj=>?_⟩
    · rw [hg2 j (by omega)]
      simp only [St.theirs]
      rw [if_neg (by omega)]
    · cases j with
      | zero =>
        simp at hj
        subst hj
        exact ⟨x,_,rfl,hf0,hv1.mono hle2,sl_more (row_sl (hb x (by simp))) hn2 hg2,fun i q=>by cases q;show S.next<S2.next;omega⟩
      | succ j =>
        have:=h2 j v (by simpa using hj)
        simpa using this
theorem turnstilelaw13_BodyFeeds.calls (x0 x1 z1:Int) (A0:Option Addr) (c0:Nat) (l0:List (List Int)) (en:Bool) (w:World) (hr0:Kd.C (Kd.slice 5 (Kd.int .u8)) w A0 l0.length l0) (hc0:l0.length≤c0)
    (hE:GlobE w) (hG:4<w.heap.size) (hp:l0.length≤1048576∧(∀ x ∈ l0,x.length≤1048576∧∀ y ∈ x,0≤y∧y<256)∧z1≤9223372036854775807) :
    Calls Tryz.prog 4 #[.agg #[.int .i64 x0,.int .i64 x1,.int .i64 z1,.slice A0 l0.length c0,.bool en]] w fun e w'=>e=.returned (.bool true)∧Below w.heap.size w w':=by
  have st0:=startE hE hG
  obtain ⟨f,hf1,hf2⟩:∃ f:Nat→Option Value,(∀ (j:Nat) (x:List Int),l0[j]? = some x→∃ A c,f j=some (.slice A x.length c)∧x.length≤c∧Kd.C (Kd.int .u8) w A x.length x)∧(0<l0.length→∃ ad,A0=some ad∧∀ j v,f j=some v→w.cell? (ad.add j)=some v):=by
    by_cases h0:0<l0.length
    · obtain ⟨ad,e,hc⟩:=hr0.2.2 h0
      refine ⟨fun j=>w.cell? (ad.add j),fun j x hj=>?_,fun _=>⟨ad,e,fun j v h=>h⟩⟩
      obtain ⟨cs,h1,h2,h3⟩:=hc j x hj
      obtain ⟨A,c,rfl,q1,q2⟩:=h2
      refine ⟨A,c,?_,q1,q2⟩
      have h4:=h3 0 _ rfl
      have e1:(Kd.slice 5 (Kd.int .u8)).sz=1:=rfl
      rw [e1,Nat.mul_one,Nat.add_zero] at h4
      exact h4
    · have:l0 = []:=List.length_eq_zero_iff.1 (by omega)
      subst this
      exact ⟨fun _=>none,fun j x hj=>by simp at hj,fun q=>absurd q h0⟩
  obtain ⟨ρ1,S1,vs,hle1,st1,hn1,hg1,hl1,hv1⟩:=rows_start l0 f st0 hf1 (fun x hx=>(hp.2.1 x hx).2)
  obtain ⟨ρ2,hle2,st2,hv2⟩:=st1.row 1 vs A0 l0.length c0 hc0 (by rw [← hl1];exact List.length_eq_zero_iff) (fun h0=>by
    obtain ⟨ad,e,hc⟩:=hf2 h0
    refine ⟨ad,e,fun j v hj=>?_⟩
    obtain ⟨x,v',_,h3,h4,_⟩:=hv1 j v hj
    exact ⟨v',hc j v' h3,h4⟩)
  have hlen:(l0.map by8).length=l0.length:=by simp
  refine st2.law prims2_sim mixed rfl (xs:=#[.agg #[.int .i64 x0,.int .i64 x1,.int .i64 z1,.slice (some ⟨S1.next,0,some 0⟩) l0.length (UNK+1),.bool en]]) (VRL.cons (VR.agg' (VRL.cons (VR.scalar rfl) (VRL.cons (VR.scalar rfl) (VRL.cons (VR.scalar rfl) (VRL.cons hv2 (VRL.cons (VR.scalar rfl) (VRL.nil _))))))) (VRL.nil _)) ?_
  rw [← hlen]
  have hS2:∀ j,j<S1.next→(S1.theirs vs).get j=S1.get j:=fun j hj=>by simp only [St.theirs];rw [if_neg (by omega)]
  have hnx:(S1.theirs vs).next=S1.next+1:=rfl
  have hn0:(St.start 4 glE).next=5:=rfl
  refine feeds_walk prims2_ok (pb:=S1.next) (vs:=vs) (ps:=l0.map by8) (by rw [hl1,hlen]) (by rw [hlen];exact hp.1) (by simp [St.theirs]) (by omega) (fun i v hi=>?_) hp.2.2 ?_ (by omega) ?_
  · obtain ⟨x,v',h1,_,_,h4,h5⟩:=hv1 i v hi
    refine ⟨by8 x,by simp [h1],?_,sl_more h4 (by omega) hS2,fun j q=>by have:=h5 j q;omega⟩
    have:=(hp.2.1 x (List.mem_of_getElem? h1)).1
    simpa [by8] using this
  · rw [hS2 0 (by omega),hg1 0 (by omega)]
    simp [St.start,glE,geB]
  · intro S';rfl
end Go.Proofs.YtdfgdpjlbcnkfaaGreatDoor.Q
