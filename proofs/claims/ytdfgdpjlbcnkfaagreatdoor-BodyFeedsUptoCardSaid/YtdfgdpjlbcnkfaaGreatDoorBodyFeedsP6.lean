/- What the law BodyFeeds needs, part 6: the runner over a plain memory, words, the functions that it reaches, each by its own contract; for the inputs that each theorem names. -/
import Derived.Test.YtdfgdpjlbcnkfaaGreatDoorBodyFeedsP5
import Derived.Test.YtdfgdpjlbcnkfaaGreatDoorBodyFeedsP3
import Derived.Shelf.Strings.Trim
import Derived.Shelf.Small.Utf8
import Derived.Shelf.Small.Strs
import Derived.Shelf.Strings.Search1
import Derived.Shelf.Strings.Runes
import Derived.Shelf.Strings.AsciiSet
import Derived.Shelf.Unicode.DecodeSlow
import Derived.Shelf.Bytes.SlIndexSmall
import Derived.Shelf.Bytes.SlIndexAt
import Derived.Shelf.Bytes.SlSearch0
import Derived.Shelf.Bytes.SlSearch1
import Derived.Shelf.Bytes.SlSearch2
import Derived.Shelf.Bytes.SlIndexWhole
import Derived.Shelf.LaysM
import Derived.Ground.SlbtProg
import Derived.Shelf.Bytes.SlCut
import Derived.Shelf.Bytes.Small
import Derived.Shelf.Bytes.IndexByte
import Derived.Test.YtdfgdpjlbcnkfaaGreatDoorProg
import Derived.Test.YtdfgdpjlbcnkfaaGreatDoorBodyFeedsP2
import Derived.Shelf.Strings.SlTrimAscii
import Derived.Test.YtdfgdpjlbcnkfaaGreatDoorRows
import Derived.Below
import Derived.Deep.Draws
import Derived.Deep.AppendLies
import Derived.Maps.AppendAt
import Derived.OwnWalk
import Derived.Laws.BytesArg
import Derived.Laws.MakeOwn
import Derived.Laws.OwnMore
import Derived.Deep.OwnRows
import Derived.Tactics
import Derived.Lib.ConvBytes
import Derived.Laws.Slices
import Derived.WalkKit
import Derived.KernelRfl
import Derived.RowKit3
import Derived.Deep.LoopGhost
import Derived.Deep.QuietTactic
import Derived.BigQuiet
import Derived.WideLaws
import Derived.Deep.DeepCutAuto
import Derived.Deep.CutBlock
import Derived.Deep.RegionHeld3
import Derived.Laws.Rows
import Derived.Lib.AppendStr
import Derived.ArgAppend
import Derived.Laws.IdiomCopy
import Derived.RowKit
import Derived.Lib.LaidU8
import Derived.MakeChecks
import Derived.LaidHandle
import Derived.OrdersHeld
import Derived.Laws.BitsLemmas
import Derived.LaidEql
import Derived.Stop.Asserts
import Derived.RowKitTokens
import Derived.IntWalk
import Derived.Test.YtdfgdpjlbcnkfaaGreatDoorBodyFeedsP4
namespace Go.Proofs.YtdfgdpjlbcnkfaaGreatDoor.Q
open Go Go.Proofs.YtdfgdpjlbcnkfaaGreatDoorAbs Go.Proofs
set_option linter.unusedVariables false
set_option linter.unusedSimpArgs false
set_option maxRecDepth 100000
set_option maxHeartbeats 4000000
attribute [local irreducible] YtdfgdpjlbcnkfaaGreatDoorAbs.O YtdfgdpjlbcnkfaaGreatDoorAbs.W YtdfgdpjlbcnkfaaGreatDoorAbs.C YtdfgdpjlbcnkfaaGreatDoorAbs.OK YtdfgdpjlbcnkfaaGreatDoorAbs.OKF YtdfgdpjlbcnkfaaGreatDoorAbs.OKT YtdfgdpjlbcnkfaaGreatDoorAbs.then_ YtdfgdpjlbcnkfaaGreatDoorAbs.inBlock_ YtdfgdpjlbcnkfaaGreatDoorAbs.bodyQ YtdfgdpjlbcnkfaaGreatDoorAbs.Cont
structure BOk (r:BR):Prop where
  inv:BInv r
  kind:r.kind=0∨r.kind=1∨r.kind=2∨r.kind=3
  zero:r.kind=0→r.done=true
  lt:r.kind=1→r.done=false→r.len<r.length
  code:∀ c,r.err=some c→c ≠ 0
section
variable {I:Prims} {S:St} {Q:Value→St→Prop}
theorem numF_zero {r:BR} (h:BOk r):(numF r.err=0)=(r.err=none):=by
  cases he:r.err with
  | none=>simp [numF]
  | some c=>simp [numF,h.code c he]
theorem feedB_all {r:BR} {xs:List UInt8} (hst:¬ (r.done=true∨r.err.isSome=true)) (hd:r.done=false) (h1:r.kind=1→r.len+xs.length<r.length) (h3:r.kind ≠ 1→0≤r.most→r.len+xs.length≤r.most):feedB r xs=((xs.length:Int),xs,{ r with len:=r.len+xs.length }):=by
  rw [feedB,if_neg hst]
  by_cases k1:r.kind=1
  · have:=h1 k1
    rw [if_pos k1,if_neg (show ¬ r.length - r.len<(xs.length:Int) by omega)]
    dsimp only
    rw [decide_eq_false (show ¬ r.len+(xs.length:Int)=r.length by omega)]
    simp [← hd]
  · rw [if_neg k1,if_neg (fun q=>by have:=h3 k1 q.1;omega)]
theorem feedB_done {r:BR} {xs:List UInt8} {k:Nat} (hst:¬ (r.done=true∨r.err.isSome=true)) (k1:r.kind=1) (h:r.len+(k:Int)+1=r.length) (hk:k<xs.length):feedB r xs=(((k+1:Nat):Int),xs.take (k+1),{ r with len:=r.len+(k:Int)+1,done:=true }):=by
  rw [feedB,if_neg hst,if_pos k1]
  by_cases q:r.length - r.len<(xs.length:Int)
  · have e:r.length - r.len=((k+1:Nat):Int):=by omega
    rw [if_pos q,e]
    dsimp only
    rw [Int.toNat_natCast]
    have e2:r.len+((k+1:Nat):Int)=r.len+(k:Int)+1:=by omega
    simp only [e2]
    rw [decide_eq_true h]
  · have e:xs.length=k+1:=by omega
    rw [if_neg q]
    dsimp only
    rw [Int.toNat_natCast,e]
    have e2:r.len+((k+1:Nat):Int)=r.len+(k:Int)+1:=by omega
    simp only [e2]
    rw [decide_eq_true h]
theorem feedB_over {r:BR} {xs:List UInt8} {k:Nat} (hst:¬ (r.done=true∨r.err.isSome=true)) (k1:r.kind ≠ 1) (h0:0≤r.most) (h:r.len+(k:Int)=r.most) (hk:k<xs.length):feedB r xs=(((k+1:Nat):Int),xs.take k,{ r with len:=r.len+(k:Int),err:=some 33 }):=by
  rw [feedB,if_neg hst,if_neg k1,if_pos ⟨h0,by omega⟩]
  have e:r.most - r.len=(k:Int):=by omega
  have e2:r.most - r.len+1=((k+1:Nat):Int):=by omega
  rw [e2,e,Int.toNat_natCast,← h]
theorem RXFeed_C (h:HI I) {r:BR} {p:Option PRd} {rr:RR} {la ta:Option Addr} {lc tc:Nat} {v:Value} {xs:List UInt8} (hP:RP r p rr) (hb:BOk r) (hv:RV S rr (.slice la rr.line.length lc) (.slice ta rr.trl.length tc)) (hx:Sl S v xs) (hxn:xs.length≤1099511627776)
    (hQ:∀ S' rr' la' lc' ta' tc' ov,RP (feedX r p xs).2.2.1 (feedX r p xs).2.2.2 rr'→RMv S S' rr' (.slice la rr.line.length lc) (.slice ta rr.trl.length tc) (.slice la' rr'.line.length lc') (.slice ta' rr'.trl.length tc')→Own 5 1 S' ov (feedX r p xs).2.1.length (u8v (feedX r p xs).2.1)→(∀ i,blkOf ov=some i→S.next≤i∧blkOf (.slice la' rr'.line.length lc') ≠ some i∧blkOf (.slice ta' rr'.trl.length tc') ≠ some i) →
      Q (.tuple #[bval (feedX r p xs).2.2.1 rr' (.slice la' rr'.line.length lc') (.slice ta' rr'.trl.length tc'),.int .i64 (feedX r p xs).1,ov]) S') :
    C Tryz.prog I 12 #[bval r rr (.slice la rr.line.length lc) (.slice ta rr.trl.length tc),v] S Q:=by
  refine C_body (rs:=[.cell 4 44,.tmp 5,.tmp 6]) (h.no 12 (by decide)) Tryz.func12 rfl rfl ok12 ?_
  obtain ⟨sz23,u24,sz5,u5,u9,u3,sz36,sz3,sz44,u37,sz34,u34,sz24,sz4,u4,sz58,u58,sz65,sz63,u63,sz42,sz26,u40,sz74,sz40,sz78,u83,sz81,sz9,sz92,sz89,u89,sz90,u90,u108,sz115,u115,sz133,u133,u138,u21,u145,u148,sz147⟩:=UF
  have hl0:=fun i q=>own_lt (i:=i) hv.line q
  have ht0:=fun i q=>own_lt (i:=i) hv.trl q
  have hn0:=numF_zero hb
  simp only [bval,bcells]
  by_cases hst:r.done=true∨r.err.isSome=true
  · have hX:feedX r p xs=(0,[],r,p):=by
      cases p with
      | none=>simp only [feedX];rw [feedB,if_pos hst]
      | some p=>simp only [feedX];rw [feedC,if_pos hst]
    rw [hX] at hQ
    have hq:=fun S' (k:KpL S S')=>hQ S' rr la lc ta tc (.slice none 0 0) hP (RMv.same hv k rfl rfl) (Own.nil _ _ _) (fun i q=>by cases q)
    simp only [bval,bcells] at hq
    cases hd:r.done with
    | true =>
      rw [hd] at hq
      repeat' (first | (with_reducible first|refine W_pushC fun K hK=>?_|refine W_blockI ?_|refine W_scopeI ?_|refine W_labelI ?_|refine W_skipI ?_|refine W_retI ?_|refine W_exitI ?_|refine then_normalI ?_|refine then_retI ?_|refine then_exitI ?_|refine inBlock_normalI ?_|refine inBlock_retI ?_|refine inBlock_exitI ?_|refine inBlock_exitN (by decide) ?_) | ((with_reducible first|refine bodyQ_normal0 ?_|refine bodyQ_normal1 ?_|refine bodyQ_normal2 ?_|refine bodyQ_normal3 ?_|refine bodyQ_normal4 ?_|refine bodyQ_ret0 ?_|refine bodyQ_ret1 ?_|refine bodyQ_ret2 ?_|refine bodyQ_ret3 ?_|refine bodyQ_ret4 ?_);(try simp only [EVB,Nat.reduceEqDiff,reduceIte])) | (with_reducible first|refine bodyQ_retC1 fun cR hcR=>?_|refine bodyQ_retC2 fun cR hcR=>?_|refine bodyQ_retC3 fun cR hcR=>?_|refine bodyQ_retC5 fun cR hcR=>?_) | ((with_reducible refine hcR _ ?_);(try simp only [EVB,Nat.reduceEqDiff,reduceIte])) | (with_reducible refine Cont.use (by assumption) ?_) | (with_reducible first|refine hcA ?_|refine hcB ?_) | ((with_reducible first|refine W_condG fun cA cB hcA hcB=>?_|refine W_regionI ?_|show O _ _ _ _ _ _ _ _|show OK _ _ _ _ _ _ _ _ _|show OKF _ _ _ _ _ _ _ _ _ _|show OKT _ _ _ _ _ _ _ _ _ _ _ _|show _∧_|show CG _ _ _|show CB _ _ _|show RL _ _);simp (disch:=first|((with_reducible show isStop _=false);rfl)|((with_reducible show isP _=true);rfl)|((with_reducible show (isStop _ || isP _)=false);rfl)|assumption|(simp only [GSB,Nat.reduceEqDiff,reduceIte];done)|omega|(with_reducible decide)|(simp only [DSB,Go.Proofs.YtdfgdpjlbcnkfaaGreatDoorAbs.oneC,Nat.reduceAdd,Nat.reduceLeDiff] <;> omega)|fail) only [↓DN,↓reduceIte,UP,CGC,Int.reduceEq,Int.reduceLT,Int.reduceLE,Nat.reduceEqDiff,Nat.reduceAdd,Nat.reduceMul,Nat.reduceSub,Int.reduceToNat,Nat.reduceLeDiff,PF,isStop,isP,goInt,beq_self_eq_true,decide_true,decide_false,Int.toNat_natCast,Int.natCast_zero,hd]) | ((with_reducible refine CB_intro (fun ht=>hcA ?_) (fun ht=>hcB ?_)) <;> (first|(simp only [Bool.true_eq_false,Bool.false_eq_true] at ht;done)|((try simp only [Bool.not_eq_true',Bool.not_eq_false'] at ht);(try simp only [ht]);(try simp only [HTN] at ht);(try (exfalso;omega))))) | ((with_reducible refine W_regionI ?_);simp only [List.append_eq,List.cons_append,List.nil_append]) | (with_reducible refine O_splitG fun cA cB hcA hcB=>?_) | (exact hq _ (by repeat' (first|exact Kept.refl _ _|exact KpL.refl _|assumption|refine Kept.psh ?_ _|refine KpL.psh ?_ _|refine Kept.upd ?_ ?_ _|refine KpL.upd ?_ ?_ _|omega|(simp only [St.next_push,St.next_upd];omega)|refine KpL.trans ?_ (by assumption)|refine Kept.trans ?_ (by assumption)|refine Kept.trans ?_ (KpL.kept (by assumption))))))
    | false =>
      rw [hd] at hq
      have de:decide (numF r.err=0)=false:=decide_eq_false (by
        rw [hn0]
        rcases hst with q|q
        · rw [hd] at q;cases q
        · intro z;rw [z] at q;cases q)
      repeat' (first | (with_reducible first|refine W_pushC fun K hK=>?_|refine W_blockI ?_|refine W_scopeI ?_|refine W_labelI ?_|refine W_skipI ?_|refine W_retI ?_|refine W_exitI ?_|refine then_normalI ?_|refine then_retI ?_|refine then_exitI ?_|refine inBlock_normalI ?_|refine inBlock_retI ?_|refine inBlock_exitI ?_|refine inBlock_exitN (by decide) ?_) | ((with_reducible first|refine bodyQ_normal0 ?_|refine bodyQ_normal1 ?_|refine bodyQ_normal2 ?_|refine bodyQ_normal3 ?_|refine bodyQ_normal4 ?_|refine bodyQ_ret0 ?_|refine bodyQ_ret1 ?_|refine bodyQ_ret2 ?_|refine bodyQ_ret3 ?_|refine bodyQ_ret4 ?_);(try simp only [EVB,Nat.reduceEqDiff,reduceIte])) | (with_reducible first|refine bodyQ_retC1 fun cR hcR=>?_|refine bodyQ_retC2 fun cR hcR=>?_|refine bodyQ_retC3 fun cR hcR=>?_|refine bodyQ_retC5 fun cR hcR=>?_) | ((with_reducible refine hcR _ ?_);(try simp only [EVB,Nat.reduceEqDiff,reduceIte])) | (with_reducible refine Cont.use (by assumption) ?_) | (with_reducible first|refine hcA ?_|refine hcB ?_) | ((with_reducible first|refine W_condG fun cA cB hcA hcB=>?_|refine W_regionI ?_|show O _ _ _ _ _ _ _ _|show OK _ _ _ _ _ _ _ _ _|show OKF _ _ _ _ _ _ _ _ _ _|show OKT _ _ _ _ _ _ _ _ _ _ _ _|show _∧_|show CG _ _ _|show CB _ _ _|show RL _ _);simp (disch:=first|((with_reducible show isStop _=false);rfl)|((with_reducible show isP _=true);rfl)|((with_reducible show (isStop _ || isP _)=false);rfl)|assumption|(simp only [GSB,Nat.reduceEqDiff,reduceIte];done)|omega|(with_reducible decide)|(simp only [DSB,Go.Proofs.YtdfgdpjlbcnkfaaGreatDoorAbs.oneC,Nat.reduceAdd,Nat.reduceLeDiff] <;> omega)|fail) only [↓DN,↓reduceIte,UP,CGC,Int.reduceEq,Int.reduceLT,Int.reduceLE,Nat.reduceEqDiff,Nat.reduceAdd,Nat.reduceMul,Nat.reduceSub,Int.reduceToNat,Nat.reduceLeDiff,PF,isStop,isP,goInt,beq_self_eq_true,decide_true,decide_false,Int.toNat_natCast,Int.natCast_zero,hd,de]) | ((with_reducible refine CB_intro (fun ht=>hcA ?_) (fun ht=>hcB ?_)) <;> (first|(simp only [Bool.true_eq_false,Bool.false_eq_true] at ht;done)|((try simp only [Bool.not_eq_true',Bool.not_eq_false'] at ht);(try simp only [ht]);(try simp only [HTN] at ht);(try (exfalso;omega))))) | ((with_reducible refine W_regionI ?_);simp only [List.append_eq,List.cons_append,List.nil_append]) | (with_reducible refine O_splitG fun cA cB hcA hcB=>?_) | (exact hq _ (by repeat' (first|exact Kept.refl _ _|exact KpL.refl _|assumption|refine Kept.psh ?_ _|refine KpL.psh ?_ _|refine Kept.upd ?_ ?_ _|refine KpL.upd ?_ ?_ _|omega|(simp only [St.next_push,St.next_upd];omega)|refine KpL.trans ?_ (by assumption)|refine Kept.trans ?_ (by assumption)|refine Kept.trans ?_ (KpL.kept (by assumption))))))
  have hd:r.done=false:=by cases q:r.done with|false=>rfl|true=>exact absurd (.inl q) hst
  have he:r.err=none:=by cases q:r.err with|none=>rfl|some c=>exact absurd (.inr (by rw [q];rfl)) hst
  have hk0:r.kind ≠ 0:=fun q=>by rw [hb.zero q] at hd;cases hd
  rw [hd,he]
  simp only [numF]
  by_cases k2:r.kind=2
  · cases p with
    | none=>exact absurd k2 hP.1
    | some p =>
    obtain ⟨_,hB,hi⟩:=hP
    have dk:decide (r.kind=2)=true:=decide_eq_true k2
    repeat' (first | (with_reducible first|refine W_pushC fun K hK=>?_|refine W_blockI ?_|refine W_scopeI ?_|refine W_labelI ?_|refine W_skipI ?_|refine W_retI ?_|refine W_exitI ?_|refine then_normalI ?_|refine then_retI ?_|refine then_exitI ?_|refine inBlock_normalI ?_|refine inBlock_retI ?_|refine inBlock_exitI ?_|refine inBlock_exitN (by decide) ?_) | ((with_reducible first|refine bodyQ_normal0 ?_|refine bodyQ_normal1 ?_|refine bodyQ_normal2 ?_|refine bodyQ_normal3 ?_|refine bodyQ_normal4 ?_|refine bodyQ_ret0 ?_|refine bodyQ_ret1 ?_|refine bodyQ_ret2 ?_|refine bodyQ_ret3 ?_|refine bodyQ_ret4 ?_);(try simp only [EVB,Nat.reduceEqDiff,reduceIte])) | (with_reducible first|refine bodyQ_retC1 fun cR hcR=>?_|refine bodyQ_retC2 fun cR hcR=>?_|refine bodyQ_retC3 fun cR hcR=>?_|refine bodyQ_retC5 fun cR hcR=>?_) | ((with_reducible refine hcR _ ?_);(try simp only [EVB,Nat.reduceEqDiff,reduceIte])) | (with_reducible refine Cont.use (by assumption) ?_) | (with_reducible first|refine hcA ?_|refine hcB ?_) | ((with_reducible first|refine W_condG fun cA cB hcA hcB=>?_|refine W_regionI ?_|show O _ _ _ _ _ _ _ _|show OK _ _ _ _ _ _ _ _ _|show OKF _ _ _ _ _ _ _ _ _ _|show OKT _ _ _ _ _ _ _ _ _ _ _ _|show _∧_|show CG _ _ _|show CB _ _ _|show RL _ _);simp (disch:=first|((with_reducible show isStop _=false);rfl)|((with_reducible show isP _=true);rfl)|((with_reducible show (isStop _ || isP _)=false);rfl)|assumption|(simp only [GSB,Nat.reduceEqDiff,reduceIte];done)|omega|(with_reducible decide)|(simp only [DSB,Go.Proofs.YtdfgdpjlbcnkfaaGreatDoorAbs.oneC,Nat.reduceAdd,Nat.reduceLeDiff] <;> omega)|fail) only [↓DN,↓reduceIte,UP,CGC,Int.reduceEq,Int.reduceLT,Int.reduceLE,Nat.reduceEqDiff,Nat.reduceAdd,Nat.reduceMul,Nat.reduceSub,Int.reduceToNat,Nat.reduceLeDiff,PF,isStop,isP,goInt,beq_self_eq_true,decide_true,decide_false,Int.toNat_natCast,Int.natCast_zero,dk]) | ((with_reducible refine CB_intro (fun ht=>hcA ?_) (fun ht=>hcB ?_)) <;> (first|(simp only [Bool.true_eq_false,Bool.false_eq_true] at ht;done)|((try simp only [Bool.not_eq_true',Bool.not_eq_false'] at ht);(try simp only [ht]);(try simp only [HTN] at ht);(try (exfalso;omega))))) | ((with_reducible refine W_regionI ?_);simp only [List.append_eq,List.cons_append,List.nil_append]) | (with_reducible refine O_splitG fun cA cB hcA hcB=>?_))
    refine RKFeed_C (r:=rr) h hB hi (hv.kept (Kept.psh (Kept.push _ none) _)) (sl_kept hx (Kept.psh (Kept.push _ none) _) (by simp)) hxn (fun S1 la1 lc1 ta1 tc1 ov hM hO hov=>?_)
    have n1:=hM.kept.next
    simp only [St.next_push] at n1
    have g1:=(hM.kept.get S.next (by simp only [St.next_push];omega) (by simp)).trans ((St.get_push_ne _ _ (by simp only [St.next_push];omega)).trans (St.get_push_self _ _))
    have g2:=(hM.kept.get (S.next+1) (by simp only [St.next_push];omega) (by simp)).trans (St.get_push_self _ _)
    obtain ⟨f1,f2,f3⟩:=Bi.feed xs hB hi
    have hi2:=feed_inv xs p hi
    have hol:=feed_out xs p
    have hX:feedX r (some p) xs=((((feedF p xs).1:Nat):Int),(feedF p xs).2.1,{ r with len:=r.len+(feedF p xs).2.1.length,done:=decide ((feedF p xs).2.2.state=8),err:=(feedF p xs).2.2.err },some (feedF p xs).2.2):=by
      simp only [feedX];rw [feedC,if_neg hst]
    rw [hX] at hQ
    obtain ⟨b1,b2,b3⟩:=f3.ends
    rw [f2] at hO
    have b1':(feedR rr xs).2.2.e=numF (feedF p xs).2.2.err:=by rw [b1];cases (feedF p xs).2.2.err <;> rfl
    rw [f1,b1',b2]
    generalize hXF:feedF p xs=XF at *
    generalize hXR:(feedR rr xs).2.2=rr1 at *
    obtain ⟨kf,outf,p1⟩:=XF
    simp only at *
    obtain ⟨oa,oc,rfl⟩:=own_slice hO
    have w1:IntKind.i64.wrap (r.len+((outf.length:Nat):Int))=r.len+((outf.length:Nat):Int):=Go.Proofs.YtdfgdpjlbcnkfaaGreatDoorAbs.wp64 (by have:=hb.inv.l0;omega) (by have:=hb.inv.l1;omega)
    have hq:=fun S4 hM4 hO4 hov4=>hQ S4 rr1 la1 lc1 ta1 tc1 (.slice oa outf.length oc) ⟨k2,f3,hi2⟩ hM4 hO4 hov4
    simp only [bval,bcells] at hq
    simp only [RR.val,RR.cells]
    have kS1:KpL S S1:=(KpL.psh (KpL.push S _) _).trans hM.kept
    have hMb:=hM.base (KpL.psh (KpL.push S _) _)
    have hnl:∀ j,(j=S.next∨j=S.next+1∨j=S1.next)→blkOf (.slice la1 rr1.line.length lc1) ≠ some j∧blkOf (.slice ta1 rr1.trl.length tc1) ≠ some j:=fun j hj=>by
      refine ⟨fun q=>?_,fun q=>?_⟩
      · have a1:=own_lt hM.rv.line q
        rcases hM.l j q with z|z
        · have:=hl0 j z;omega
        · simp only [St.next_push] at z;omega
      · have a1:=own_lt hM.rv.trl q
        rcases hM.t j q with z|z
        · have:=ht0 j z;omega
        · simp only [St.next_push] at z;omega
    have hno:∀ j,(j=S.next∨j=S.next+1∨j=S1.next)→blkOf (.slice oa outf.length oc) ≠ some j:=fun j hj q=>by
      have a1:=own_lt hO q
      have a2:=(hov j q).1
      simp only [St.next_push] at a2
      omega
    have hM4:∀ Z R V W,RMv S ((((S1.push Z).upd S1.next R).upd S.next V).upd (S.next+1) W) rr1 (.slice la rr.line.length lc) (.slice ta rr.trl.length tc) (.slice la1 rr1.line.length lc1) (.slice ta1 rr1.trl.length tc1):=fun Z R V W =>
      ⟨KpL.upd (KpL.upd (KpL.upd (KpL.psh kS1 Z) (by omega) R) (Nat.le_refl _) V) (Nat.le_succ _) W,⟨own_upd (own_upd (own_upd (own_push hM.rv.line) (hnl _ (by simp)).1) (hnl _ (by simp)).1) (hnl _ (by simp)).1,own_upd (own_upd (own_upd (own_push hM.rv.trl) (hnl _ (by simp)).2) (hnl _ (by simp)).2) (hnl _ (by simp)).2⟩,hMb.l,hMb.t⟩
    have hO4:∀ Z R V W,Own 5 1 ((((S1.push Z).upd S1.next R).upd S.next V).upd (S.next+1) W) (.slice oa outf.length oc) outf.length (u8v outf):=fun Z R V W=>own_upd (own_upd (own_upd (own_push hO) (hno _ (by simp))) (hno _ (by simp))) (hno _ (by simp))
    repeat' (first | (with_reducible first|refine W_pushC fun K hK=>?_|refine W_blockI ?_|refine W_scopeI ?_|refine W_labelI ?_|refine W_skipI ?_|refine W_retI ?_|refine W_exitI ?_|refine then_normalI ?_|refine then_retI ?_|refine then_exitI ?_|refine inBlock_normalI ?_|refine inBlock_retI ?_|refine inBlock_exitI ?_|refine inBlock_exitN (by decide) ?_) | ((with_reducible first|refine bodyQ_normal0 ?_|refine bodyQ_normal1 ?_|refine bodyQ_normal2 ?_|refine bodyQ_normal3 ?_|refine bodyQ_normal4 ?_|refine bodyQ_ret0 ?_|refine bodyQ_ret1 ?_|refine bodyQ_ret2 ?_|refine bodyQ_ret3 ?_|refine bodyQ_ret4 ?_);(try simp only [EVB,Nat.reduceEqDiff,reduceIte])) | (with_reducible first|refine bodyQ_retC1 fun cR hcR=>?_|refine bodyQ_retC2 fun cR hcR=>?_|refine bodyQ_retC3 fun cR hcR=>?_|refine bodyQ_retC5 fun cR hcR=>?_) | ((with_reducible refine hcR _ ?_);(try simp only [EVB,Nat.reduceEqDiff,reduceIte])) | (with_reducible refine Cont.use (by assumption) ?_) | (with_reducible first|refine hcA ?_|refine hcB ?_) | ((with_reducible first|refine W_condG fun cA cB hcA hcB=>?_|refine W_regionI ?_|show O _ _ _ _ _ _ _ _|show OK _ _ _ _ _ _ _ _ _|show OKF _ _ _ _ _ _ _ _ _ _|show OKT _ _ _ _ _ _ _ _ _ _ _ _|show _∧_|show CG _ _ _|show CB _ _ _|show RL _ _);simp (disch:=first|((with_reducible show isStop _=false);rfl)|((with_reducible show isP _=true);rfl)|((with_reducible show (isStop _ || isP _)=false);rfl)|assumption|(simp only [GSB,Nat.reduceEqDiff,reduceIte];done)|omega|(with_reducible decide)|(simp only [DSB,Go.Proofs.YtdfgdpjlbcnkfaaGreatDoorAbs.oneC,Nat.reduceAdd,Nat.reduceLeDiff] <;> omega)|fail) only [↓DN,↓reduceIte,UP,CGC,Int.reduceEq,Int.reduceLT,Int.reduceLE,Nat.reduceEqDiff,Nat.reduceAdd,Nat.reduceMul,Nat.reduceSub,Int.reduceToNat,Nat.reduceLeDiff,PF,isStop,isP,goInt,beq_self_eq_true,decide_true,decide_false,Int.toNat_natCast,Int.natCast_zero,g1,g2,w1]) | ((with_reducible refine CB_intro (fun ht=>hcA ?_) (fun ht=>hcB ?_)) <;> (first|(simp only [Bool.true_eq_false,Bool.false_eq_true] at ht;done)|((try simp only [Bool.not_eq_true',Bool.not_eq_false'] at ht);(try simp only [ht]);(try simp only [HTN] at ht);(try (exfalso;omega))))) | ((with_reducible refine W_regionI ?_);simp only [List.append_eq,List.cons_append,List.nil_append]) | (with_reducible refine O_splitG fun cA cB hcA hcB=>?_) | (exact hq _ (hM4 _ _ _ _) (hO4 _ _ _ _) (fun i q=>⟨by have:=(hov i q).1;simp only [St.next_push] at this;omega,(hov i q).2⟩)))
  · obtain rfl:p=none:=by
      cases p with
      | none=>rfl
      | some p=>exact absurd hP.1 k2
    have dk:decide (r.kind=2)=false:=decide_eq_false k2
    have hX:feedX r none xs=((feedB r xs).1,(feedB r xs).2.1,(feedB r xs).2.2,none):=rfl
    rw [hX] at hQ
    simp only at hQ
    have hkB:=feedB_kind r xs
    have hPn:RP (feedB r xs).2.2 none rr:=⟨by rw [hkB];exact k2,hP.2⟩
    have hq:=fun S4 ov k4=>hQ S4 rr la lc ta tc ov hPn (RMv.same hv k4 rfl rfl)
    have h13:r.kind=1∨r.kind=3:=by have:=hb.kind;omega
    have hb0:=hb.inv.l0
    have hb1:=hb.inv.l1
    repeat' (first | (with_reducible first|refine W_pushC fun K hK=>?_|refine W_blockI ?_|refine W_scopeI ?_|refine W_labelI ?_|refine W_skipI ?_|refine W_retI ?_|refine W_exitI ?_|refine then_normalI ?_|refine then_retI ?_|refine then_exitI ?_|refine inBlock_normalI ?_|refine inBlock_retI ?_|refine inBlock_exitI ?_|refine inBlock_exitN (by decide) ?_) | ((with_reducible first|refine bodyQ_normal0 ?_|refine bodyQ_normal1 ?_|refine bodyQ_normal2 ?_|refine bodyQ_normal3 ?_|refine bodyQ_normal4 ?_|refine bodyQ_ret0 ?_|refine bodyQ_ret1 ?_|refine bodyQ_ret2 ?_|refine bodyQ_ret3 ?_|refine bodyQ_ret4 ?_);(try simp only [EVB,Nat.reduceEqDiff,reduceIte])) | (with_reducible first|refine bodyQ_retC1 fun cR hcR=>?_|refine bodyQ_retC2 fun cR hcR=>?_|refine bodyQ_retC3 fun cR hcR=>?_|refine bodyQ_retC5 fun cR hcR=>?_) | ((with_reducible refine hcR _ ?_);(try simp only [EVB,Nat.reduceEqDiff,reduceIte])) | (with_reducible refine Cont.use (by assumption) ?_) | (with_reducible first|refine hcA ?_|refine hcB ?_) | ((with_reducible first|refine W_condG fun cA cB hcA hcB=>?_|refine W_regionI ?_|show O _ _ _ _ _ _ _ _|show OK _ _ _ _ _ _ _ _ _|show OKF _ _ _ _ _ _ _ _ _ _|show OKT _ _ _ _ _ _ _ _ _ _ _ _|show _∧_|show CG _ _ _|show CB _ _ _|show RL _ _);simp (disch:=first|((with_reducible show isStop _=false);rfl)|((with_reducible show isP _=true);rfl)|((with_reducible show (isStop _ || isP _)=false);rfl)|assumption|(simp only [GSB,Nat.reduceEqDiff,reduceIte];done)|omega|(with_reducible decide)|(simp only [DSB,Go.Proofs.YtdfgdpjlbcnkfaaGreatDoorAbs.oneC,Nat.reduceAdd,Nat.reduceLeDiff] <;> omega)|fail) only [↓DN,↓reduceIte,UP,CGC,Int.reduceEq,Int.reduceLT,Int.reduceLE,Nat.reduceEqDiff,Nat.reduceAdd,Nat.reduceMul,Nat.reduceSub,Int.reduceToNat,Nat.reduceLeDiff,PF,isStop,isP,goInt,beq_self_eq_true,decide_true,decide_false,Int.toNat_natCast,Int.natCast_zero,dk]) | ((with_reducible refine CB_intro (fun ht=>hcA ?_) (fun ht=>hcB ?_)) <;> (first|(simp only [Bool.true_eq_false,Bool.false_eq_true] at ht;done)|((try simp only [Bool.not_eq_true',Bool.not_eq_false'] at ht);(try simp only [ht]);(try simp only [HTN] at ht);(try (exfalso;omega))))) | ((with_reducible refine W_regionI ?_);simp only [List.append_eq,List.cons_append,List.nil_append]) | (with_reducible refine O_splitG fun cA cB hcA hcB=>?_))
    refine W_loop (fun n e S1=>∃ (k:Nat) (ov:Value) (m:Nat),e.get 2=.pointer (some ⟨S.next,0,some 16⟩)∧e.get 4=.pointer (some ⟨S.next+1,0,some 16⟩)∧e.get 1=v∧e.get 12=ov∧e.get 13=.int .i64 k∧k≤xs.length∧n=xs.length - k∧S1.get S.next=some ⟨[.int .i64 r.kind,.int .i64 r.length,.int .i64 r.most,.int .i64 (r.len+k),.bool false,.int .i64 0,.int .i64 rr.most,.int .i64 rr.len,.int .i64 rr.state,.int .i64 rr.e,.int .i64 rr.digits,.int .i64 rr.size,.int .i64 rr.more,.slice la rr.line.length lc,.int .i64 rr.bytes,.slice ta rr.trl.length tc],44,true,m⟩∧m≤16 ∧
      S1.get (S.next+1)=some ⟨[.int .i64 0,.int .i64 0,.int .i64 0,.int .i64 0,.bool false,.int .i64 0,.int .i64 0,.int .i64 0,.int .i64 0,.int .i64 0,.int .i64 0,.int .i64 0,.int .i64 0,.slice none 0 0,.int .i64 0,.slice none 0 0],44,true,0⟩∧S.next+2≤S1.next∧KpL S S1∧Own 5 1 S1 ov (xs.take k).length (u8v (xs.take k))∧(∀ i,blkOf ov=some i→S.next+2≤i)∧(r.kind=1→r.len+k<r.length)∧(r.kind=3→0≤r.most→r.len+k≤r.most)) xs.length ⟨0,.slice none 0 0,0,by simp only [EVB,Nat.reduceEqDiff,reduceIte],by simp only [EVB,Nat.reduceEqDiff,reduceIte],by simp only [EVB,Nat.reduceEqDiff,reduceIte],by simp only [EVB,Nat.reduceEqDiff,reduceIte],by simp only [EVB,Nat.reduceEqDiff,reduceIte];rfl,Nat.zero_le _,by simp,?_,Nat.zero_le _,St.get_push_self _ _,Nat.le_refl _,(by repeat' (first|exact Kept.refl _ _|exact KpL.refl _|assumption|refine Kept.psh ?_ _|refine KpL.psh ?_ _|refine Kept.upd ?_ ?_ _|refine KpL.upd ?_ ?_ _|omega|(simp only [St.next_push,St.next_upd];omega)|refine KpL.trans ?_ (by assumption)|refine Kept.trans ?_ (by assumption)|refine Kept.trans ?_ (KpL.kept (by assumption)))),Own.nil _ _ _,(fun i q=>by cases q),(fun q=>by have:=hb.lt q hd;omega),(fun q q0=>by have:=(hb.inv.most q0).1;omega)⟩ ?_
    · rw [St.get_push_ne _ _ (by simp only [St.next_push];omega),St.get_push_self];simp
    rintro n e S1 ⟨k,ov,m,e2,e4,e1,e12,e13,hk,hn,g1,hm,g2,n1,kk,hO,hov,i1,i3⟩
    have hx1:=sl_kept hx kk.kept (by simp)
    obtain ⟨va,vc,rfl,hv0,hvv⟩:=hx1
    obtain ⟨oa,oc,rfl⟩:=own_slice hO
    have htl:(xs.take k).length=k:=by simp;omega
    have hov2:∀ i,blkOf (.slice oa (xs.take k).length oc)=some i→S.next≤i∧blkOf (.slice la rr.line.length lc) ≠ some i∧blkOf (.slice ta rr.trl.length tc) ≠ some i:=fun i q=>by
      have:=hov i q
      exact ⟨by omega,fun z=>by have:=hl0 i z;omega,fun z=>by have:=ht0 i z;omega⟩
    by_cases hkl:k<xs.length
    case neg =>
      have hke:k=xs.length:=by omega
      have hE:=feedB_all (xs:=xs) hst hd (fun q=>by rw [← hke];exact i1 q) (fun q q0=>by rw [← hke];exact i3 (by omega) q0)
      rw [hE] at hq
      simp only [bval,bcells] at hq
      rw [hd,he] at hq
      simp only [numF] at hq
      have hdk:decide ((k:Int)<(xs.length:Int))=false:=decide_eq_false (by omega)
      rw [hke,List.take_length] at hO hov2
      have hq2:=fun V=>hq (S1.upd (S.next+1) V) (.slice oa xs.length oc) (by repeat' (first|exact Kept.refl _ _|exact KpL.refl _|assumption|refine Kept.psh ?_ _|refine KpL.psh ?_ _|refine Kept.upd ?_ ?_ _|refine KpL.upd ?_ ?_ _|omega|(simp only [St.next_push,St.next_upd];omega)|refine KpL.trans ?_ (by assumption)|refine Kept.trans ?_ (by assumption)|refine Kept.trans ?_ (KpL.kept (by assumption)))) (own_upd hO (fun q=>by rw [hke,List.take_length] at hov;have:=hov _ q;omega)) hov2
      rw [hke,List.take_length] at e12
      rw [hke] at g1
      repeat' (first | (with_reducible first|refine W_pushC fun K hK=>?_|refine W_blockI ?_|refine W_scopeI ?_|refine W_labelI ?_|refine W_skipI ?_|refine W_retI ?_|refine W_exitI ?_|refine then_normalI ?_|refine then_retI ?_|refine then_exitI ?_|refine inBlock_normalI ?_|refine inBlock_retI ?_|refine inBlock_exitI ?_|refine inBlock_exitN (by decide) ?_) | ((with_reducible first|refine bodyQ_normal0 ?_|refine bodyQ_normal1 ?_|refine bodyQ_normal2 ?_|refine bodyQ_normal3 ?_|refine bodyQ_normal4 ?_|refine bodyQ_ret0 ?_|refine bodyQ_ret1 ?_|refine bodyQ_ret2 ?_|refine bodyQ_ret3 ?_|refine bodyQ_ret4 ?_);(try simp only [EVB,Nat.reduceEqDiff,reduceIte])) | (with_reducible first|refine bodyQ_retC1 fun cR hcR=>?_|refine bodyQ_retC2 fun cR hcR=>?_|refine bodyQ_retC3 fun cR hcR=>?_|refine bodyQ_retC5 fun cR hcR=>?_) | ((with_reducible refine hcR _ ?_);(try simp only [EVB,Nat.reduceEqDiff,reduceIte])) | (with_reducible refine Cont.use (by assumption) ?_) | (with_reducible first|refine hcA ?_|refine hcB ?_) | ((with_reducible first|refine W_condG fun cA cB hcA hcB=>?_|refine W_regionI ?_|show O _ _ _ _ _ _ _ _|show OK _ _ _ _ _ _ _ _ _|show OKF _ _ _ _ _ _ _ _ _ _|show OKT _ _ _ _ _ _ _ _ _ _ _ _|show _∧_|show CG _ _ _|show CB _ _ _|show RL _ _);simp (disch:=first|((with_reducible show isStop _=false);rfl)|((with_reducible show isP _=true);rfl)|((with_reducible show (isStop _ || isP _)=false);rfl)|assumption|(simp only [GSB,Nat.reduceEqDiff,reduceIte];done)|omega|(with_reducible decide)|(simp only [DSB,Go.Proofs.YtdfgdpjlbcnkfaaGreatDoorAbs.oneC,Nat.reduceAdd,Nat.reduceLeDiff] <;> omega)|fail) only [↓DN,↓reduceIte,UP,CGC,Int.reduceEq,Int.reduceLT,Int.reduceLE,Nat.reduceEqDiff,Nat.reduceAdd,Nat.reduceMul,Nat.reduceSub,Int.reduceToNat,Nat.reduceLeDiff,PF,isStop,isP,goInt,beq_self_eq_true,decide_true,decide_false,Int.toNat_natCast,Int.natCast_zero,e1,e2,e4,e12,e13,g1,g2,hdk]) | ((with_reducible refine CB_intro (fun ht=>hcA ?_) (fun ht=>hcB ?_)) <;> (first|(simp only [Bool.true_eq_false,Bool.false_eq_true] at ht;done)|((try simp only [Bool.not_eq_true',Bool.not_eq_false'] at ht);(try simp only [ht]);(try simp only [HTN] at ht);(try (exfalso;omega))))) | ((with_reducible refine W_regionI ?_);simp only [List.append_eq,List.cons_append,List.nil_append]) | (with_reducible refine O_splitG fun cA cB hcA hcB=>?_) | (exact hq2 _))
    have hne:xs ≠ []:=fun q=>by rw [q] at hkl;simp at hkl
    obtain ⟨vb,vo,vL,cs,el,own,vm,rfl,hcap,hvc,hvo,hvt,hvn1⟩:=hvv hne
    obtain ⟨c,hc⟩:∃ c,xs[k]? = some c:=⟨xs[k],by simp [hkl]⟩
    have hcell:YtdfgdpjlbcnkfaaGreatDoorAbs.cellAt (S1.get vb) (vo+k) vL=some (.int .u8 c.toNat):=by
      have e1:((cs.drop vo).take xs.length)[k]? = some (.int .u8 c.toNat):=by rw [hvt];simp [u8v,hc]
      rw [List.getElem?_take,if_pos hkl,List.getElem?_drop] at e1
      rw [hvc]
      simp only [Go.Proofs.YtdfgdpjlbcnkfaaGreatDoorAbs.cellAt]
      rw [if_pos (fun q=>⟨(hvo q).1,by have:=(hvo q).2;omega⟩)]
      exact e1
    have hdk:decide ((k:Int)<(xs.length:Int))=true:=decide_eq_true (by omega)
    have w4:IntKind.i64.wrap ((k:Int)+1)=((k+1:Nat):Int):=by rw [Go.Proofs.YtdfgdpjlbcnkfaaGreatDoorAbs.wp64 (by omega) (by omega)];omega
    have w5:IntKind.i64.wrap (r.len+(k:Int)+1)=r.len+(k:Int)+1:=Go.Proofs.YtdfgdpjlbcnkfaaGreatDoorAbs.wp64 (by omega) (by omega)
    have hek:r.len+((k+1:Nat):Int)=r.len+(k:Int)+1:=by omega
    have htk:xs.take (k+1)=xs.take k ++ [c]:=by
      rw [List.take_succ_eq_append_getElem hkl]
      rw [List.getElem?_eq_getElem hkl] at hc
      rw [Option.some.inj hc]
    by_cases hover:r.kind=3∧r.len+(k:Int)=r.most
    · have hE:=feedB_over (xs:=xs) hst (by omega) (by omega) hover.2 hkl
      rw [hE] at hq
      simp only [bval,bcells] at hq
      rw [hd] at hq
      simp only [numF] at hq
      have d3:decide (r.kind=3)=true:=decide_eq_true hover.1
      have d4:decide (r.len+(k:Int)=r.most)=true:=decide_eq_true hover.2
      have hq2:=fun V W=>hq ((S1.upd S.next V).upd (S.next+1) W) (.slice oa (xs.take k).length oc) (by repeat' (first|exact Kept.refl _ _|exact KpL.refl _|assumption|refine Kept.psh ?_ _|refine KpL.psh ?_ _|refine Kept.upd ?_ ?_ _|refine KpL.upd ?_ ?_ _|omega|(simp only [St.next_push,St.next_upd];omega)|refine KpL.trans ?_ (by assumption)|refine Kept.trans ?_ (by assumption)|refine Kept.trans ?_ (KpL.kept (by assumption)))) (own_upd (own_upd hO (fun q=>by have:=hov _ q;omega)) (fun q=>by have:=hov _ q;omega)) hov2
      repeat' (first | (with_reducible first|refine W_pushC fun K hK=>?_|refine W_blockI ?_|refine W_scopeI ?_|refine W_labelI ?_|refine W_skipI ?_|refine W_retI ?_|refine W_exitI ?_|refine then_normalI ?_|refine then_retI ?_|refine then_exitI ?_|refine inBlock_normalI ?_|refine inBlock_retI ?_|refine inBlock_exitI ?_|refine inBlock_exitN (by decide) ?_) | ((with_reducible first|refine bodyQ_normal0 ?_|refine bodyQ_normal1 ?_|refine bodyQ_normal2 ?_|refine bodyQ_normal3 ?_|refine bodyQ_normal4 ?_|refine bodyQ_ret0 ?_|refine bodyQ_ret1 ?_|refine bodyQ_ret2 ?_|refine bodyQ_ret3 ?_|refine bodyQ_ret4 ?_);(try simp only [EVB,Nat.reduceEqDiff,reduceIte])) | (with_reducible first|refine bodyQ_retC1 fun cR hcR=>?_|refine bodyQ_retC2 fun cR hcR=>?_|refine bodyQ_retC3 fun cR hcR=>?_|refine bodyQ_retC5 fun cR hcR=>?_) | ((with_reducible refine hcR _ ?_);(try simp only [EVB,Nat.reduceEqDiff,reduceIte])) | (with_reducible refine Cont.use (by assumption) ?_) | (with_reducible first|refine hcA ?_|refine hcB ?_) | ((with_reducible first|refine W_condG fun cA cB hcA hcB=>?_|refine W_regionI ?_|show O _ _ _ _ _ _ _ _|show OK _ _ _ _ _ _ _ _ _|show OKF _ _ _ _ _ _ _ _ _ _|show OKT _ _ _ _ _ _ _ _ _ _ _ _|show _∧_|show CG _ _ _|show CB _ _ _|show RL _ _);simp (disch:=first|((with_reducible show isStop _=false);rfl)|((with_reducible show isP _=true);rfl)|((with_reducible show (isStop _ || isP _)=false);rfl)|assumption|(simp only [GSB,Nat.reduceEqDiff,reduceIte];done)|omega|(with_reducible decide)|(simp only [DSB,Go.Proofs.YtdfgdpjlbcnkfaaGreatDoorAbs.oneC,Nat.reduceAdd,Nat.reduceLeDiff] <;> omega)|fail) only [↓DN,↓reduceIte,UP,CGC,Int.reduceEq,Int.reduceLT,Int.reduceLE,Nat.reduceEqDiff,Nat.reduceAdd,Nat.reduceMul,Nat.reduceSub,Int.reduceToNat,Nat.reduceLeDiff,PF,isStop,isP,goInt,beq_self_eq_true,decide_true,decide_false,Int.toNat_natCast,Int.natCast_zero,e1,e2,e4,e12,e13,g1,g2,hdk,d3,d4,w4]) | ((with_reducible refine CB_intro (fun ht=>hcA ?_) (fun ht=>hcB ?_)) <;> (first|(simp only [Bool.true_eq_false,Bool.false_eq_true] at ht;done)|((try simp only [Bool.not_eq_true',Bool.not_eq_false'] at ht);(try simp only [ht]);(try simp only [HTN] at ht);(try (exfalso;omega))))) | ((with_reducible refine W_regionI ?_);simp only [List.append_eq,List.cons_append,List.nil_append]) | (with_reducible refine O_splitG fun cA cB hcA hcB=>?_) | (exact hq2 _ _))
    have hOp:=fun B=>own_push (B:=B) hO
    have post:∀ {B:Blk} {v5:Value} {S5:St},Own 5 1 S5 v5 ((xs.take k).length+1) (u8v (xs.take k) ++ [.int .u8 c.toNat])→Kept (S1.push B) S5 (blkOf (.slice oa (xs.take k).length oc))→(blkOf v5=blkOf (.slice oa (xs.take k).length oc)∨∃ i,(S1.push B).next≤i∧blkOf v5=some i)→(∀ m,m≤(S1.push B).low→(∀ b,blkOf (.slice oa (xs.take k).length oc)=some b→m≤b)→m≤S5.low) →
        KpL S S5∧S5.get S.next=S1.get S.next∧S5.get (S.next+1)=S1.get (S.next+1)∧Own 5 1 S5 v5 (xs.take (k+1)).length (u8v (xs.take (k+1)))∧(∀ i,blkOf v5=some i→S.next+2≤i)∧S.next+2≤S5.next:=fun {B v5 S5} hO5 k5 hB5 l5=>by
      have n5:=k5.1
      simp only [St.next_push] at n5
      have ap:=kk.psh B
      refine ⟨⟨by omega,fun i hi hn=>?_,fun m h1 h2=>l5 m (ap.low m h1 h2) (fun b q=>by have:=hov b q;omega)⟩,?_,?_,by rw [htk];simpa [u8v] using hO5,fun i q=>?_,by omega⟩
      · rw [k5.2 i (by simp only [St.next_push];omega) (fun q=>by have:=hov _ q;omega)];exact ap.get i hi hn
      · rw [k5.2 S.next (by simp only [St.next_push];omega) (fun q=>by have:=hov _ q;omega),St.get_push_ne _ _ (by omega)]
      · rw [k5.2 (S.next+1) (by simp only [St.next_push];omega) (fun q=>by have:=hov _ q;omega),St.get_push_ne _ _ (by omega)]
      · rcases hB5 with z|⟨j,z1,z2⟩
        · rw [z] at q;exact hov i q
        · rw [z2] at q;cases q;simp only [St.next_push] at z1;omega
    rcases h13 with k1|k3
    · have d3:decide (r.kind=3)=false:=decide_eq_false (by omega)
      have d1:decide (r.kind=1)=true:=decide_eq_true k1
      repeat' (first | (with_reducible first|refine W_pushC fun K hK=>?_|refine W_blockI ?_|refine W_scopeI ?_|refine W_labelI ?_|refine W_skipI ?_|refine W_retI ?_|refine W_exitI ?_|refine then_normalI ?_|refine then_retI ?_|refine then_exitI ?_|refine inBlock_normalI ?_|refine inBlock_retI ?_|refine inBlock_exitI ?_|refine inBlock_exitN (by decide) ?_) | ((with_reducible first|refine bodyQ_normal0 ?_|refine bodyQ_normal1 ?_|refine bodyQ_normal2 ?_|refine bodyQ_normal3 ?_|refine bodyQ_normal4 ?_|refine bodyQ_ret0 ?_|refine bodyQ_ret1 ?_|refine bodyQ_ret2 ?_|refine bodyQ_ret3 ?_|refine bodyQ_ret4 ?_);(try simp only [EVB,Nat.reduceEqDiff,reduceIte])) | (with_reducible first|refine bodyQ_retC1 fun cR hcR=>?_|refine bodyQ_retC2 fun cR hcR=>?_|refine bodyQ_retC3 fun cR hcR=>?_|refine bodyQ_retC5 fun cR hcR=>?_) | ((with_reducible refine hcR _ ?_);(try simp only [EVB,Nat.reduceEqDiff,reduceIte])) | (with_reducible refine Cont.use (by assumption) ?_) | (with_reducible first|refine hcA ?_|refine hcB ?_) | ((with_reducible first|refine W_condG fun cA cB hcA hcB=>?_|refine W_regionI ?_|show O _ _ _ _ _ _ _ _|show OK _ _ _ _ _ _ _ _ _|show OKF _ _ _ _ _ _ _ _ _ _|show OKT _ _ _ _ _ _ _ _ _ _ _ _|show _∧_|show CG _ _ _|show CB _ _ _|show RL _ _);simp (disch:=first|((with_reducible show isStop _=false);rfl)|((with_reducible show isP _=true);rfl)|((with_reducible show (isStop _ || isP _)=false);rfl)|assumption|(simp only [GSB,Nat.reduceEqDiff,reduceIte];done)|omega|(with_reducible decide)|(simp only [DSB,Go.Proofs.YtdfgdpjlbcnkfaaGreatDoorAbs.oneC,Nat.reduceAdd,Nat.reduceLeDiff] <;> omega)|fail) only [↓DN,↓reduceIte,UP,CGC,Int.reduceEq,Int.reduceLT,Int.reduceLE,Nat.reduceEqDiff,Nat.reduceAdd,Nat.reduceMul,Nat.reduceSub,Int.reduceToNat,Nat.reduceLeDiff,PF,isStop,isP,goInt,beq_self_eq_true,decide_true,decide_false,Int.toNat_natCast,Int.natCast_zero,e1,e2,e4,e12,e13,g1,g2,hdk,d3,hcell,w4]) | ((with_reducible refine CB_intro (fun ht=>hcA ?_) (fun ht=>hcB ?_)) <;> (first|(simp only [Bool.true_eq_false,Bool.false_eq_true] at ht;done)|((try simp only [Bool.not_eq_true',Bool.not_eq_false'] at ht);(try simp only [ht]);(try simp only [HTN] at ht);(try (exfalso;omega))))) | ((with_reducible refine W_regionI ?_);simp only [List.append_eq,List.cons_append,List.nil_append]) | (with_reducible refine O_splitG fun cA cB hcA hcB=>?_))
      refine O_appendL (P:=Tryz.prog) (elem:=5) (size:=1) (bytes:=1) (n:=(xs.take k).length) (m:=1) (xs:=u8v (xs.take k)) (ys:=[.int .u8 c.toNat]) u24 sz5 by5 ze5 ⟨by decide,by decide,rfl⟩ (by simp only [EVB,Nat.reduceEqDiff,reduceIte,e12];exact hOp _) (by simp only [EVB,Nat.reduceEqDiff,reduceIte];exact asrc_own_lit u24 (St.get_push_self _ _) (Nat.zero_le _) rfl rfl) ⟨rfl,rfl⟩ (by rw [htl];omega) fun v5 S5 hO5 hK5 hB5 hL5=>?_
      simp only [EVB,Nat.reduceEqDiff,reduceIte,e12] at hK5 hB5 hL5
      obtain ⟨p1,p2,p3,p4,p5,p6⟩:=post hO5 hK5 hB5 hL5
      clear hO5 hK5 hB5 hL5
      have g1':=p2.trans g1
      have g2':=p3.trans g2
      by_cases hdn:r.len+(k:Int)+1=r.length
      · have d5:decide (r.len+(k:Int)+1=r.length)=true:=decide_eq_true hdn
        have hE:=feedB_done (xs:=xs) hst k1 hdn hkl
        rw [hE] at hq
        simp only [bval,bcells] at hq
        rw [he] at hq
        simp only [numF] at hq
        have hq2:=fun V W=>hq ((S5.upd S.next V).upd (S.next+1) W) v5 (by repeat' (first|exact Kept.refl _ _|exact KpL.refl _|assumption|refine Kept.psh ?_ _|refine KpL.psh ?_ _|refine Kept.upd ?_ ?_ _|refine KpL.upd ?_ ?_ _|omega|(simp only [St.next_push,St.next_upd];omega)|refine KpL.trans ?_ (by assumption)|refine Kept.trans ?_ (by assumption)|refine Kept.trans ?_ (KpL.kept (by assumption)))) (own_upd (own_upd p4 (fun q=>by have:=p5 _ q;omega)) (fun q=>by have:=p5 _ q;omega)) (fun i q=>by
          have:=p5 i q
          exact ⟨by omega,fun z=>by have:=hl0 i z;omega,fun z=>by have:=ht0 i z;omega⟩)
        repeat' (first | (with_reducible first|refine W_pushC fun K hK=>?_|refine W_blockI ?_|refine W_scopeI ?_|refine W_labelI ?_|refine W_skipI ?_|refine W_retI ?_|refine W_exitI ?_|refine then_normalI ?_|refine then_retI ?_|refine then_exitI ?_|refine inBlock_normalI ?_|refine inBlock_retI ?_|refine inBlock_exitI ?_|refine inBlock_exitN (by decide) ?_) | ((with_reducible first|refine bodyQ_normal0 ?_|refine bodyQ_normal1 ?_|refine bodyQ_normal2 ?_|refine bodyQ_normal3 ?_|refine bodyQ_normal4 ?_|refine bodyQ_ret0 ?_|refine bodyQ_ret1 ?_|refine bodyQ_ret2 ?_|refine bodyQ_ret3 ?_|refine bodyQ_ret4 ?_);(try simp only [EVB,Nat.reduceEqDiff,reduceIte])) | (with_reducible first|refine bodyQ_retC1 fun cR hcR=>?_|refine bodyQ_retC2 fun cR hcR=>?_|refine bodyQ_retC3 fun cR hcR=>?_|refine bodyQ_retC5 fun cR hcR=>?_) | ((with_reducible refine hcR _ ?_);(try simp only [EVB,Nat.reduceEqDiff,reduceIte])) | (with_reducible refine Cont.use (by assumption) ?_) | (with_reducible first|refine hcA ?_|refine hcB ?_) | ((with_reducible first|refine W_condG fun cA cB hcA hcB=>?_|refine W_regionI ?_|show O _ _ _ _ _ _ _ _|show OK _ _ _ _ _ _ _ _ _|show OKF _ _ _ _ _ _ _ _ _ _|show OKT _ _ _ _ _ _ _ _ _ _ _ _|show _∧_|show CG _ _ _|show CB _ _ _|show RL _ _);simp (disch:=first|((with_reducible show isStop _=false);rfl)|((with_reducible show isP _=true);rfl)|((with_reducible show (isStop _ || isP _)=false);rfl)|assumption|(simp only [GSB,Nat.reduceEqDiff,reduceIte];done)|omega|(with_reducible decide)|(simp only [DSB,Go.Proofs.YtdfgdpjlbcnkfaaGreatDoorAbs.oneC,Nat.reduceAdd,Nat.reduceLeDiff] <;> omega)|fail) only [↓DN,↓reduceIte,UP,CGC,Int.reduceEq,Int.reduceLT,Int.reduceLE,Nat.reduceEqDiff,Nat.reduceAdd,Nat.reduceMul,Nat.reduceSub,Int.reduceToNat,Nat.reduceLeDiff,PF,isStop,isP,goInt,beq_self_eq_true,decide_true,decide_false,Int.toNat_natCast,Int.natCast_zero,e1,e2,e4,e13,g1',g2',d1,d5,w4,w5]) | ((with_reducible refine CB_intro (fun ht=>hcA ?_) (fun ht=>hcB ?_)) <;> (first|(simp only [Bool.true_eq_false,Bool.false_eq_true] at ht;done)|((try simp only [Bool.not_eq_true',Bool.not_eq_false'] at ht);(try simp only [ht]);(try simp only [HTN] at ht);(try (exfalso;omega))))) | ((with_reducible refine W_regionI ?_);simp only [List.append_eq,List.cons_append,List.nil_append]) | (with_reducible refine O_splitG fun cA cB hcA hcB=>?_) | (exact hq2 _ _))
      · have d5:decide (r.len+(k:Int)+1=r.length)=false:=decide_eq_false hdn
        have j1:=i1 k1
        repeat' (first | (with_reducible first|refine W_pushC fun K hK=>?_|refine W_blockI ?_|refine W_scopeI ?_|refine W_labelI ?_|refine W_skipI ?_|refine W_retI ?_|refine W_exitI ?_|refine then_normalI ?_|refine then_retI ?_|refine then_exitI ?_|refine inBlock_normalI ?_|refine inBlock_retI ?_|refine inBlock_exitI ?_|refine inBlock_exitN (by decide) ?_) | ((with_reducible first|refine bodyQ_normal0 ?_|refine bodyQ_normal1 ?_|refine bodyQ_normal2 ?_|refine bodyQ_normal3 ?_|refine bodyQ_normal4 ?_|refine bodyQ_ret0 ?_|refine bodyQ_ret1 ?_|refine bodyQ_ret2 ?_|refine bodyQ_ret3 ?_|refine bodyQ_ret4 ?_);(try simp only [EVB,Nat.reduceEqDiff,reduceIte])) | (with_reducible first|refine bodyQ_retC1 fun cR hcR=>?_|refine bodyQ_retC2 fun cR hcR=>?_|refine bodyQ_retC3 fun cR hcR=>?_|refine bodyQ_retC5 fun cR hcR=>?_) | ((with_reducible refine hcR _ ?_);(try simp only [EVB,Nat.reduceEqDiff,reduceIte])) | (with_reducible refine Cont.use (by assumption) ?_) | (with_reducible first|refine hcA ?_|refine hcB ?_) | ((with_reducible first|refine W_condG fun cA cB hcA hcB=>?_|refine W_regionI ?_|show O _ _ _ _ _ _ _ _|show OK _ _ _ _ _ _ _ _ _|show OKF _ _ _ _ _ _ _ _ _ _|show OKT _ _ _ _ _ _ _ _ _ _ _ _|show _∧_|show CG _ _ _|show CB _ _ _|show RL _ _);simp (disch:=first|((with_reducible show isStop _=false);rfl)|((with_reducible show isP _=true);rfl)|((with_reducible show (isStop _ || isP _)=false);rfl)|assumption|(simp only [GSB,Nat.reduceEqDiff,reduceIte];done)|omega|(with_reducible decide)|(simp only [DSB,Go.Proofs.YtdfgdpjlbcnkfaaGreatDoorAbs.oneC,Nat.reduceAdd,Nat.reduceLeDiff] <;> omega)|fail) only [↓DN,↓reduceIte,UP,CGC,Int.reduceEq,Int.reduceLT,Int.reduceLE,Nat.reduceEqDiff,Nat.reduceAdd,Nat.reduceMul,Nat.reduceSub,Int.reduceToNat,Nat.reduceLeDiff,PF,isStop,isP,goInt,beq_self_eq_true,decide_true,decide_false,Int.toNat_natCast,Int.natCast_zero,e1,e2,e4,e13,g1',g2',d1,d5,w4,w5]) | ((with_reducible refine CB_intro (fun ht=>hcA ?_) (fun ht=>hcB ?_)) <;> (first|(simp only [Bool.true_eq_false,Bool.false_eq_true] at ht;done)|((try simp only [Bool.not_eq_true',Bool.not_eq_false'] at ht);(try simp only [ht]);(try simp only [HTN] at ht);(try (exfalso;omega))))) | ((with_reducible refine W_regionI ?_);simp only [List.append_eq,List.cons_append,List.nil_append]) | (with_reducible refine O_splitG fun cA cB hcA hcB=>?_) | ((refine ⟨xs.length - (k+1),by omega,k+1,v5,16,by simp only [EVB,Nat.reduceEqDiff,reduceIte,e2],by simp only [EVB,Nat.reduceEqDiff,reduceIte,e4],by simp only [EVB,Nat.reduceEqDiff,reduceIte,e1],by simp only [EVB,Nat.reduceEqDiff,reduceIte],by simp only [EVB,Nat.reduceEqDiff,reduceIte],by omega,rfl,by rw [St.get_upd_self,hek],Nat.le_refl _,(St.get_upd_ne _ _ (by omega)).trans g2',by simp only [St.next_upd];omega,KpL.upd p1 (Nat.le_refl _) _,own_upd p4 (fun q=>by have:=p5 _ q;omega),p5,(fun q=>by omega),(fun q=>by omega)⟩)))
    · have d3:decide (r.kind=3)=true:=decide_eq_true k3
      have d4:decide (r.len+(k:Int)=r.most)=false:=decide_eq_false (fun q=>hover ⟨k3,q⟩)
      have d1:decide (r.kind=1)=false:=decide_eq_false (by omega)
      repeat' (first | (with_reducible first|refine W_pushC fun K hK=>?_|refine W_blockI ?_|refine W_scopeI ?_|refine W_labelI ?_|refine W_skipI ?_|refine W_retI ?_|refine W_exitI ?_|refine then_normalI ?_|refine then_retI ?_|refine then_exitI ?_|refine inBlock_normalI ?_|refine inBlock_retI ?_|refine inBlock_exitI ?_|refine inBlock_exitN (by decide) ?_) | ((with_reducible first|refine bodyQ_normal0 ?_|refine bodyQ_normal1 ?_|refine bodyQ_normal2 ?_|refine bodyQ_normal3 ?_|refine bodyQ_normal4 ?_|refine bodyQ_ret0 ?_|refine bodyQ_ret1 ?_|refine bodyQ_ret2 ?_|refine bodyQ_ret3 ?_|refine bodyQ_ret4 ?_);(try simp only [EVB,Nat.reduceEqDiff,reduceIte])) | (with_reducible first|refine bodyQ_retC1 fun cR hcR=>?_|refine bodyQ_retC2 fun cR hcR=>?_|refine bodyQ_retC3 fun cR hcR=>?_|refine bodyQ_retC5 fun cR hcR=>?_) | ((with_reducible refine hcR _ ?_);(try simp only [EVB,Nat.reduceEqDiff,reduceIte])) | (with_reducible refine Cont.use (by assumption) ?_) | (with_reducible first|refine hcA ?_|refine hcB ?_) | ((with_reducible first|refine W_condG fun cA cB hcA hcB=>?_|refine W_regionI ?_|show O _ _ _ _ _ _ _ _|show OK _ _ _ _ _ _ _ _ _|show OKF _ _ _ _ _ _ _ _ _ _|show OKT _ _ _ _ _ _ _ _ _ _ _ _|show _∧_|show CG _ _ _|show CB _ _ _|show RL _ _);simp (disch:=first|((with_reducible show isStop _=false);rfl)|((with_reducible show isP _=true);rfl)|((with_reducible show (isStop _ || isP _)=false);rfl)|assumption|(simp only [GSB,Nat.reduceEqDiff,reduceIte];done)|omega|(with_reducible decide)|(simp only [DSB,Go.Proofs.YtdfgdpjlbcnkfaaGreatDoorAbs.oneC,Nat.reduceAdd,Nat.reduceLeDiff] <;> omega)|fail) only [↓DN,↓reduceIte,UP,CGC,Int.reduceEq,Int.reduceLT,Int.reduceLE,Nat.reduceEqDiff,Nat.reduceAdd,Nat.reduceMul,Nat.reduceSub,Int.reduceToNat,Nat.reduceLeDiff,PF,isStop,isP,goInt,beq_self_eq_true,decide_true,decide_false,Int.toNat_natCast,Int.natCast_zero,e1,e2,e4,e12,e13,g1,g2,hdk,d3,d4,hcell,w4]) | ((with_reducible refine CB_intro (fun ht=>hcA ?_) (fun ht=>hcB ?_)) <;> (first|(simp only [Bool.true_eq_false,Bool.false_eq_true] at ht;done)|((try simp only [Bool.not_eq_true',Bool.not_eq_false'] at ht);(try simp only [ht]);(try simp only [HTN] at ht);(try (exfalso;omega))))) | ((with_reducible refine W_regionI ?_);simp only [List.append_eq,List.cons_append,List.nil_append]) | (with_reducible refine O_splitG fun cA cB hcA hcB=>?_))
      refine O_appendL (P:=Tryz.prog) (elem:=5) (size:=1) (bytes:=1) (n:=(xs.take k).length) (m:=1) (xs:=u8v (xs.take k)) (ys:=[.int .u8 c.toNat]) u24 sz5 by5 ze5 ⟨by decide,by decide,rfl⟩ (by simp only [EVB,Nat.reduceEqDiff,reduceIte,e12];exact hOp _) (by simp only [EVB,Nat.reduceEqDiff,reduceIte];exact asrc_own_lit u24 (St.get_push_self _ _) (Nat.zero_le _) rfl rfl) ⟨rfl,rfl⟩ (by rw [htl];omega) fun v5 S5 hO5 hK5 hB5 hL5=>?_
      simp only [EVB,Nat.reduceEqDiff,reduceIte,e12] at hK5 hB5 hL5
      obtain ⟨p1,p2,p3,p4,p5,p6⟩:=post hO5 hK5 hB5 hL5
      clear hO5 hK5 hB5 hL5
      have g1':=p2.trans g1
      have g2':=p3.trans g2
      repeat' (first | (with_reducible first|refine W_pushC fun K hK=>?_|refine W_blockI ?_|refine W_scopeI ?_|refine W_labelI ?_|refine W_skipI ?_|refine W_retI ?_|refine W_exitI ?_|refine then_normalI ?_|refine then_retI ?_|refine then_exitI ?_|refine inBlock_normalI ?_|refine inBlock_retI ?_|refine inBlock_exitI ?_|refine inBlock_exitN (by decide) ?_) | ((with_reducible first|refine bodyQ_normal0 ?_|refine bodyQ_normal1 ?_|refine bodyQ_normal2 ?_|refine bodyQ_normal3 ?_|refine bodyQ_normal4 ?_|refine bodyQ_ret0 ?_|refine bodyQ_ret1 ?_|refine bodyQ_ret2 ?_|refine bodyQ_ret3 ?_|refine bodyQ_ret4 ?_);(try simp only [EVB,Nat.reduceEqDiff,reduceIte])) | (with_reducible first|refine bodyQ_retC1 fun cR hcR=>?_|refine bodyQ_retC2 fun cR hcR=>?_|refine bodyQ_retC3 fun cR hcR=>?_|refine bodyQ_retC5 fun cR hcR=>?_) | ((with_reducible refine hcR _ ?_);(try simp only [EVB,Nat.reduceEqDiff,reduceIte])) | (with_reducible refine Cont.use (by assumption) ?_) | (with_reducible first|refine hcA ?_|refine hcB ?_) | ((with_reducible first|refine W_condG fun cA cB hcA hcB=>?_|refine W_regionI ?_|show O _ _ _ _ _ _ _ _|show OK _ _ _ _ _ _ _ _ _|show OKF _ _ _ _ _ _ _ _ _ _|show OKT _ _ _ _ _ _ _ _ _ _ _ _|show _∧_|show CG _ _ _|show CB _ _ _|show RL _ _);simp (disch:=first|((with_reducible show isStop _=false);rfl)|((with_reducible show isP _=true);rfl)|((with_reducible show (isStop _ || isP _)=false);rfl)|assumption|(simp only [GSB,Nat.reduceEqDiff,reduceIte];done)|omega|(with_reducible decide)|(simp only [DSB,Go.Proofs.YtdfgdpjlbcnkfaaGreatDoorAbs.oneC,Nat.reduceAdd,Nat.reduceLeDiff] <;> omega)|fail) only [↓DN,↓reduceIte,UP,CGC,Int.reduceEq,Int.reduceLT,Int.reduceLE,Nat.reduceEqDiff,Nat.reduceAdd,Nat.reduceMul,Nat.reduceSub,Int.reduceToNat,Nat.reduceLeDiff,PF,isStop,isP,goInt,beq_self_eq_true,decide_true,decide_false,Int.toNat_natCast,Int.natCast_zero,e1,e2,e4,e13,g1',g2',d1,w4,w5]) | ((with_reducible refine CB_intro (fun ht=>hcA ?_) (fun ht=>hcB ?_)) <;> (first|(simp only [Bool.true_eq_false,Bool.false_eq_true] at ht;done)|((try simp only [Bool.not_eq_true',Bool.not_eq_false'] at ht);(try simp only [ht]);(try simp only [HTN] at ht);(try (exfalso;omega))))) | ((with_reducible refine W_regionI ?_);simp only [List.append_eq,List.cons_append,List.nil_append]) | (with_reducible refine O_splitG fun cA cB hcA hcB=>?_) | ((refine ⟨xs.length - (k+1),by omega,k+1,v5,16,by simp only [EVB,Nat.reduceEqDiff,reduceIte,e2],by simp only [EVB,Nat.reduceEqDiff,reduceIte,e4],by simp only [EVB,Nat.reduceEqDiff,reduceIte,e1],by simp only [EVB,Nat.reduceEqDiff,reduceIte],by simp only [EVB,Nat.reduceEqDiff,reduceIte],by omega,rfl,by rw [St.get_upd_self,hek],Nat.le_refl _,(St.get_upd_ne _ _ (by omega)).trans g2',by simp only [St.next_upd];omega,KpL.upd p1 (Nat.le_refl _) _,own_upd p4 (fun q=>by have:=p5 _ q;omega),p5,(fun q=>by omega),(fun _ q0=>by have:=i3 k3 q0;omega)⟩)))
end
end Go.Proofs.YtdfgdpjlbcnkfaaGreatDoor.Q
namespace Go.Proofs.YtdfgdpjlbcnkfaaGreatDoor.Q
open Go Go.Proofs.YtdfgdpjlbcnkfaaGreatDoorAbs Go.Proofs
set_option linter.unusedVariables false
set_option linter.unusedSimpArgs false
set_option maxRecDepth 100000
set_option maxHeartbeats 4000000
attribute [local irreducible] YtdfgdpjlbcnkfaaGreatDoorAbs.O YtdfgdpjlbcnkfaaGreatDoorAbs.W YtdfgdpjlbcnkfaaGreatDoorAbs.C YtdfgdpjlbcnkfaaGreatDoorAbs.OK YtdfgdpjlbcnkfaaGreatDoorAbs.OKF YtdfgdpjlbcnkfaaGreatDoorAbs.OKT YtdfgdpjlbcnkfaaGreatDoorAbs.then_ YtdfgdpjlbcnkfaaGreatDoorAbs.inBlock_ YtdfgdpjlbcnkfaaGreatDoorAbs.bodyQ YtdfgdpjlbcnkfaaGreatDoorAbs.Cont
theorem numF_code {e:Option Int} (h:∀ c,e=some c→c ≠ 0):(numF e=0)=(e=none):=by
  cases e with
  | none=>simp [numF]
  | some c=>simp [numF,h c rfl]
theorem feedX_code {r:BR} {p:Option PRd} {rr:RR} {xs:List UInt8} (hP:RP r p rr) (hc:∀ c,r.err=some c→c ≠ 0):∀ c,(feedX r p xs).2.2.1.err=some c→c ≠ 0:=by
  cases p with
  | none =>
    intro c h
    simp only [feedX,feedB] at h
    split at h
    · exact hc c h
    · split at h
      · exact hc c h
      · split at h
        · cases h;decide
        · exact hc c h
  | some p =>
    intro c h
    simp only [feedX,feedC] at h
    split at h
    · exact hc c h
    · exact (Bi.feed xs hP.2.1 hP.2.2).2.2.ends.2.2 c h
section
variable {I:Prims} {S:St} {Q:Value→St→Prop}
theorem REnd_C (h:HI I) {r:BR} {rr:RR} {la ta:Option Addr} {ln lc tn tc:Nat} (hc:∀ c,r.err=some c→c ≠ 0)
    (hQ:∀ S',KpL S S'→Q (.tuple #[bval (endB r).2 rr (.slice la ln lc) (.slice ta tn tc),.int .i64 (numF (endB r).1)]) S') :
    C Tryz.prog I 16 #[bval r rr (.slice la ln lc) (.slice ta tn tc)] S Q:=by
  refine C_body (rs:=[.cell 2 44,.tmp 3]) (h.no 16 (by decide)) Tryz.func16 rfl rfl ok16 ?_
  obtain ⟨sz23,u24,sz5,u5,u9,u3,sz36,sz3,sz44,u37,sz34,u34,sz24,sz4,u4,sz58,u58,sz65,sz63,u63,sz42,sz26,u40,sz74,sz40,sz78,u83,sz81,sz9,sz92,sz89,u89,sz90,u90,u108,sz115,u115,sz133,u133,u138,u21,u145,u148,sz147⟩:=UF
  have hn0:=numF_code hc
  simp only [bval,bcells] at hQ ⊢
  have hw:∀ B1 B2:Blk,((S.push B1).push B2).withLow S.low=(S.push B1).push B2:=fun _ _=>rfl
  cases hd:r.done with
  | true =>
    have hE:endB r=(r.err,r):=by rw [endB,if_pos (.inr hd)]
    rw [hE] at hQ
    simp only at hQ
    rw [hd] at hQ
    repeat' (first | (with_reducible first|refine W_pushC fun K hK=>?_|refine W_blockI ?_|refine W_scopeI ?_|refine W_labelI ?_|refine W_skipI ?_|refine W_retI ?_|refine W_exitI ?_|refine then_normalI ?_|refine then_retI ?_|refine then_exitI ?_|refine inBlock_normalI ?_|refine inBlock_retI ?_|refine inBlock_exitI ?_|refine inBlock_exitN (by decide) ?_) | ((with_reducible first|refine bodyQ_normal0 ?_|refine bodyQ_normal1 ?_|refine bodyQ_normal2 ?_|refine bodyQ_normal3 ?_|refine bodyQ_normal4 ?_|refine bodyQ_ret0 ?_|refine bodyQ_ret1 ?_|refine bodyQ_ret2 ?_|refine bodyQ_ret3 ?_|refine bodyQ_ret4 ?_);(try simp only [EVB,Nat.reduceEqDiff,reduceIte])) | (with_reducible first|refine bodyQ_retC1 fun cR hcR=>?_|refine bodyQ_retC2 fun cR hcR=>?_|refine bodyQ_retC3 fun cR hcR=>?_|refine bodyQ_retC5 fun cR hcR=>?_) | ((with_reducible refine hcR _ ?_);(try simp only [EVB,Nat.reduceEqDiff,reduceIte])) | (with_reducible refine Cont.use (by assumption) ?_) | (with_reducible first|refine hcA ?_|refine hcB ?_) | ((with_reducible show W _ _ (.region _ _ true) _ _ _);first|(refine W_soft (fl:=[true,true,true,false,true]) (ps:=[(1,2),(20,2)]) (by decide +kernel) (by decide +kernel) (by decide +kernel) ?_)) | (refine SepK_intro (by simp only [SepL,EVB,Nat.reduceEqDiff,reduceIte,hd,hw];simp [blkV];try omega) ?_) | ((with_reducible first|refine W_condG fun cA cB hcA hcB=>?_|refine W_regionI ?_|show O _ _ _ _ _ _ _ _|show OK _ _ _ _ _ _ _ _ _|show OKF _ _ _ _ _ _ _ _ _ _|show OKT _ _ _ _ _ _ _ _ _ _ _ _|show _∧_|show CG _ _ _|show CB _ _ _|show RL _ _);simp (disch:=first|((with_reducible show isStop _=false);rfl)|((with_reducible show isP _=true);rfl)|((with_reducible show (isStop _ || isP _)=false);rfl)|assumption|(simp only [GSB,Nat.reduceEqDiff,reduceIte];done)|omega|(with_reducible decide)|(simp only [DSB,Go.Proofs.YtdfgdpjlbcnkfaaGreatDoorAbs.oneC,Nat.reduceAdd,Nat.reduceLeDiff] <;> omega)|fail) only [↓DN,↓reduceIte,UP,CGC,Int.reduceEq,Int.reduceLT,Int.reduceLE,Nat.reduceEqDiff,Nat.reduceAdd,Nat.reduceMul,Nat.reduceSub,Int.reduceToNat,Nat.reduceLeDiff,PF,isStop,isP,goInt,beq_self_eq_true,decide_true,decide_false,Int.toNat_natCast,Int.natCast_zero,hd,hw]) | ((with_reducible refine CB_intro (fun ht=>hcA ?_) (fun ht=>hcB ?_)) <;> (first|(simp only [Bool.true_eq_false,Bool.false_eq_true] at ht;done)|((try simp only [Bool.not_eq_true',Bool.not_eq_false'] at ht);(try simp only [ht]);(try simp only [HTN] at ht);(try (exfalso;omega))))) | ((with_reducible refine W_regionI ?_);simp only [List.append_eq,List.cons_append,List.nil_append]) | (with_reducible refine O_splitG fun cA cB hcA hcB=>?_) | (exact hQ _ (by repeat' (first|exact Kept.refl _ _|exact KpL.refl _|assumption|refine Kept.psh ?_ _|refine KpL.psh ?_ _|refine Kept.upd ?_ ?_ _|refine KpL.upd ?_ ?_ _|omega|(simp only [St.next_push,St.next_upd];omega)|refine KpL.trans ?_ (by assumption)|refine Kept.trans ?_ (by assumption)|refine Kept.trans ?_ (KpL.kept (by assumption))))))
  | false =>
    cases he:r.err with
    | some c =>
      have hE:endB r=(r.err,r):=by rw [endB,if_pos (.inl (by rw [he];rfl))]
      rw [hE] at hQ
      simp only at hQ
      rw [hd,he] at hQ
      simp only [numF] at hQ ⊢
      have de:decide (c=0)=false:=decide_eq_false (hc c he)
      repeat' (first | (with_reducible first|refine W_pushC fun K hK=>?_|refine W_blockI ?_|refine W_scopeI ?_|refine W_labelI ?_|refine W_skipI ?_|refine W_retI ?_|refine W_exitI ?_|refine then_normalI ?_|refine then_retI ?_|refine then_exitI ?_|refine inBlock_normalI ?_|refine inBlock_retI ?_|refine inBlock_exitI ?_|refine inBlock_exitN (by decide) ?_) | ((with_reducible first|refine bodyQ_normal0 ?_|refine bodyQ_normal1 ?_|refine bodyQ_normal2 ?_|refine bodyQ_normal3 ?_|refine bodyQ_normal4 ?_|refine bodyQ_ret0 ?_|refine bodyQ_ret1 ?_|refine bodyQ_ret2 ?_|refine bodyQ_ret3 ?_|refine bodyQ_ret4 ?_);(try simp only [EVB,Nat.reduceEqDiff,reduceIte])) | (with_reducible first|refine bodyQ_retC1 fun cR hcR=>?_|refine bodyQ_retC2 fun cR hcR=>?_|refine bodyQ_retC3 fun cR hcR=>?_|refine bodyQ_retC5 fun cR hcR=>?_) | ((with_reducible refine hcR _ ?_);(try simp only [EVB,Nat.reduceEqDiff,reduceIte])) | (with_reducible refine Cont.use (by assumption) ?_) | (with_reducible first|refine hcA ?_|refine hcB ?_) | ((with_reducible show W _ _ (.region _ _ true) _ _ _);first|(refine W_soft (fl:=[true,true,true,false,true]) (ps:=[(1,2),(20,2)]) (by decide +kernel) (by decide +kernel) (by decide +kernel) ?_)) | (refine SepK_intro (by simp only [SepL,EVB,Nat.reduceEqDiff,reduceIte,hd,de,hw];simp [blkV];try omega) ?_) | ((with_reducible first|refine W_condG fun cA cB hcA hcB=>?_|refine W_regionI ?_|show O _ _ _ _ _ _ _ _|show OK _ _ _ _ _ _ _ _ _|show OKF _ _ _ _ _ _ _ _ _ _|show OKT _ _ _ _ _ _ _ _ _ _ _ _|show _∧_|show CG _ _ _|show CB _ _ _|show RL _ _);simp (disch:=first|((with_reducible show isStop _=false);rfl)|((with_reducible show isP _=true);rfl)|((with_reducible show (isStop _ || isP _)=false);rfl)|assumption|(simp only [GSB,Nat.reduceEqDiff,reduceIte];done)|omega|(with_reducible decide)|(simp only [DSB,Go.Proofs.YtdfgdpjlbcnkfaaGreatDoorAbs.oneC,Nat.reduceAdd,Nat.reduceLeDiff] <;> omega)|fail) only [↓DN,↓reduceIte,UP,CGC,Int.reduceEq,Int.reduceLT,Int.reduceLE,Nat.reduceEqDiff,Nat.reduceAdd,Nat.reduceMul,Nat.reduceSub,Int.reduceToNat,Nat.reduceLeDiff,PF,isStop,isP,goInt,beq_self_eq_true,decide_true,decide_false,Int.toNat_natCast,Int.natCast_zero,hd,de,hw]) | ((with_reducible refine CB_intro (fun ht=>hcA ?_) (fun ht=>hcB ?_)) <;> (first|(simp only [Bool.true_eq_false,Bool.false_eq_true] at ht;done)|((try simp only [Bool.not_eq_true',Bool.not_eq_false'] at ht);(try simp only [ht]);(try simp only [HTN] at ht);(try (exfalso;omega))))) | ((with_reducible refine W_regionI ?_);simp only [List.append_eq,List.cons_append,List.nil_append]) | (with_reducible refine O_splitG fun cA cB hcA hcB=>?_) | (exact hQ _ (by repeat' (first|exact Kept.refl _ _|exact KpL.refl _|assumption|refine Kept.psh ?_ _|refine KpL.psh ?_ _|refine Kept.upd ?_ ?_ _|refine KpL.upd ?_ ?_ _|omega|(simp only [St.next_push,St.next_upd];omega)|refine KpL.trans ?_ (by assumption)|refine Kept.trans ?_ (by assumption)|refine Kept.trans ?_ (KpL.kept (by assumption))))))
    | none =>
      simp only [numF]
      have hst:¬ (r.err.isSome=true∨r.done=true):=by rw [he,hd];simp
      by_cases k3:r.kind=3
      · have hE:endB r=(none,{ r with done:=true }):=by rw [endB,if_neg hst,if_pos k3]
        rw [hE] at hQ
        simp only at hQ
        rw [he] at hQ
        simp only [numF] at hQ
        have d3:decide (r.kind=3)=true:=decide_eq_true k3
        repeat' (first | (with_reducible first|refine W_pushC fun K hK=>?_|refine W_blockI ?_|refine W_scopeI ?_|refine W_labelI ?_|refine W_skipI ?_|refine W_retI ?_|refine W_exitI ?_|refine then_normalI ?_|refine then_retI ?_|refine then_exitI ?_|refine inBlock_normalI ?_|refine inBlock_retI ?_|refine inBlock_exitI ?_|refine inBlock_exitN (by decide) ?_) | ((with_reducible first|refine bodyQ_normal0 ?_|refine bodyQ_normal1 ?_|refine bodyQ_normal2 ?_|refine bodyQ_normal3 ?_|refine bodyQ_normal4 ?_|refine bodyQ_ret0 ?_|refine bodyQ_ret1 ?_|refine bodyQ_ret2 ?_|refine bodyQ_ret3 ?_|refine bodyQ_ret4 ?_);(try simp only [EVB,Nat.reduceEqDiff,reduceIte])) | (with_reducible first|refine bodyQ_retC1 fun cR hcR=>?_|refine bodyQ_retC2 fun cR hcR=>?_|refine bodyQ_retC3 fun cR hcR=>?_|refine bodyQ_retC5 fun cR hcR=>?_) | ((with_reducible refine hcR _ ?_);(try simp only [EVB,Nat.reduceEqDiff,reduceIte])) | (with_reducible refine Cont.use (by assumption) ?_) | (with_reducible first|refine hcA ?_|refine hcB ?_) | ((with_reducible show W _ _ (.region _ _ true) _ _ _);first|(refine W_soft (fl:=[true,true,true,false,true]) (ps:=[(1,2),(20,2)]) (by decide +kernel) (by decide +kernel) (by decide +kernel) ?_)) | (refine SepK_intro (by simp only [SepL,EVB,Nat.reduceEqDiff,reduceIte,hd,d3];simp [blkV];try omega) ?_) | ((with_reducible first|refine W_condG fun cA cB hcA hcB=>?_|refine W_regionI ?_|show O _ _ _ _ _ _ _ _|show OK _ _ _ _ _ _ _ _ _|show OKF _ _ _ _ _ _ _ _ _ _|show OKT _ _ _ _ _ _ _ _ _ _ _ _|show _∧_|show CG _ _ _|show CB _ _ _|show RL _ _);simp (disch:=first|((with_reducible show isStop _=false);rfl)|((with_reducible show isP _=true);rfl)|((with_reducible show (isStop _ || isP _)=false);rfl)|assumption|(simp only [GSB,Nat.reduceEqDiff,reduceIte];done)|omega|(with_reducible decide)|(simp only [DSB,Go.Proofs.YtdfgdpjlbcnkfaaGreatDoorAbs.oneC,Nat.reduceAdd,Nat.reduceLeDiff] <;> omega)|fail) only [↓DN,↓reduceIte,UP,CGC,Int.reduceEq,Int.reduceLT,Int.reduceLE,Nat.reduceEqDiff,Nat.reduceAdd,Nat.reduceMul,Nat.reduceSub,Int.reduceToNat,Nat.reduceLeDiff,PF,isStop,isP,goInt,beq_self_eq_true,decide_true,decide_false,Int.toNat_natCast,Int.natCast_zero,hd,d3]) | ((with_reducible refine CB_intro (fun ht=>hcA ?_) (fun ht=>hcB ?_)) <;> (first|(simp only [Bool.true_eq_false,Bool.false_eq_true] at ht;done)|((try simp only [Bool.not_eq_true',Bool.not_eq_false'] at ht);(try simp only [ht]);(try simp only [HTN] at ht);(try (exfalso;omega))))) | ((with_reducible refine W_regionI ?_);simp only [List.append_eq,List.cons_append,List.nil_append]) | (with_reducible refine O_splitG fun cA cB hcA hcB=>?_) | (exact hQ _ (by repeat' (first|exact Kept.refl _ _|exact KpL.refl _|assumption|refine Kept.psh ?_ _|refine KpL.psh ?_ _|refine Kept.upd ?_ ?_ _|refine KpL.upd ?_ ?_ _|omega|(simp only [St.next_push,St.next_upd];omega)|refine KpL.trans ?_ (by assumption)|refine Kept.trans ?_ (by assumption)|refine Kept.trans ?_ (KpL.kept (by assumption))))))
      · have hE:endB r=(some 32,{ r with err:=some 32 }):=by rw [endB,if_neg hst,if_neg k3]
        rw [hE] at hQ
        simp only at hQ
        rw [hd] at hQ
        simp only [numF] at hQ
        have d3:decide (r.kind=3)=false:=decide_eq_false k3
        repeat' (first | (with_reducible first|refine W_pushC fun K hK=>?_|refine W_blockI ?_|refine W_scopeI ?_|refine W_labelI ?_|refine W_skipI ?_|refine W_retI ?_|refine W_exitI ?_|refine then_normalI ?_|refine then_retI ?_|refine then_exitI ?_|refine inBlock_normalI ?_|refine inBlock_retI ?_|refine inBlock_exitI ?_|refine inBlock_exitN (by decide) ?_) | ((with_reducible first|refine bodyQ_normal0 ?_|refine bodyQ_normal1 ?_|refine bodyQ_normal2 ?_|refine bodyQ_normal3 ?_|refine bodyQ_normal4 ?_|refine bodyQ_ret0 ?_|refine bodyQ_ret1 ?_|refine bodyQ_ret2 ?_|refine bodyQ_ret3 ?_|refine bodyQ_ret4 ?_);(try simp only [EVB,Nat.reduceEqDiff,reduceIte])) | (with_reducible first|refine bodyQ_retC1 fun cR hcR=>?_|refine bodyQ_retC2 fun cR hcR=>?_|refine bodyQ_retC3 fun cR hcR=>?_|refine bodyQ_retC5 fun cR hcR=>?_) | ((with_reducible refine hcR _ ?_);(try simp only [EVB,Nat.reduceEqDiff,reduceIte])) | (with_reducible refine Cont.use (by assumption) ?_) | (with_reducible first|refine hcA ?_|refine hcB ?_) | ((with_reducible show W _ _ (.region _ _ true) _ _ _);first|(refine W_soft (fl:=[true,true,true,false,true]) (ps:=[(1,2),(20,2)]) (by decide +kernel) (by decide +kernel) (by decide +kernel) ?_)) | (refine SepK_intro (by simp only [SepL,EVB,Nat.reduceEqDiff,reduceIte,hd,d3];simp [blkV];try omega) ?_) | ((with_reducible first|refine W_condG fun cA cB hcA hcB=>?_|refine W_regionI ?_|show O _ _ _ _ _ _ _ _|show OK _ _ _ _ _ _ _ _ _|show OKF _ _ _ _ _ _ _ _ _ _|show OKT _ _ _ _ _ _ _ _ _ _ _ _|show _∧_|show CG _ _ _|show CB _ _ _|show RL _ _);simp (disch:=first|((with_reducible show isStop _=false);rfl)|((with_reducible show isP _=true);rfl)|((with_reducible show (isStop _ || isP _)=false);rfl)|assumption|(simp only [GSB,Nat.reduceEqDiff,reduceIte];done)|omega|(with_reducible decide)|(simp only [DSB,Go.Proofs.YtdfgdpjlbcnkfaaGreatDoorAbs.oneC,Nat.reduceAdd,Nat.reduceLeDiff] <;> omega)|fail) only [↓DN,↓reduceIte,UP,CGC,Int.reduceEq,Int.reduceLT,Int.reduceLE,Nat.reduceEqDiff,Nat.reduceAdd,Nat.reduceMul,Nat.reduceSub,Int.reduceToNat,Nat.reduceLeDiff,PF,isStop,isP,goInt,beq_self_eq_true,decide_true,decide_false,Int.toNat_natCast,Int.natCast_zero,hd,d3]) | ((with_reducible refine CB_intro (fun ht=>hcA ?_) (fun ht=>hcB ?_)) <;> (first|(simp only [Bool.true_eq_false,Bool.false_eq_true] at ht;done)|((try simp only [Bool.not_eq_true',Bool.not_eq_false'] at ht);(try simp only [ht]);(try simp only [HTN] at ht);(try (exfalso;omega))))) | ((with_reducible refine W_regionI ?_);simp only [List.append_eq,List.cons_append,List.nil_append]) | (with_reducible refine O_splitG fun cA cB hcA hcB=>?_) | (exact hQ _ (by repeat' (first|exact Kept.refl _ _|exact KpL.refl _|assumption|refine Kept.psh ?_ _|refine KpL.psh ?_ _|refine Kept.upd ?_ ?_ _|refine KpL.upd ?_ ?_ _|omega|(simp only [St.next_push,St.next_upd];omega)|refine KpL.trans ?_ (by assumption)|refine Kept.trans ?_ (by assumption)|refine Kept.trans ?_ (KpL.kept (by assumption))))))
theorem newR_eq (k most:Int):∃ b,newR k most=RR.fresh b:=by
  unfold newR;split <;> exact ⟨_,rfl⟩
theorem fresh_RP {k l most:Int} (hv:validB k l=true):RP (BR.fresh k l most) (newX k most) (newR k most):=by
  have hbd:0≤boundB most∧boundB most≤1099511627776:=by unfold boundB;split <;> omega
  unfold newX newR
  by_cases k2:k=2
  · rw [if_pos k2,if_pos k2]
    exact ⟨k2,Bi.fresh _,fresh_inv (by omega)⟩
  · rw [if_neg k2,if_neg k2]
    exact ⟨k2,rfl⟩
theorem fresh_BOk {k l most:Int} (hv:validB k l=true) (hm : -1≤most) (hm2:most≤9223372036854775807) (hkm:¬ (k=1∧0≤most∧most<l)):BOk (BR.fresh k l most):=by
  have hvk:k=0∨k=1∨k=2∨k=3:=by unfold validB at hv;split at hv <;> (try split at hv) <;> simp_all <;> omega
  refine ⟨fresh_binv2 hv hm hm2 hkm,hvk,fun q=>?_,fun q1 q2=>?_,fun c q=>by simp [BR.fresh] at q⟩
  · have q':k=0:=q
    simp [BR.fresh,q']
  · have q':k=1:=q1
    subst q'
    have:0≤l∧l≤1099511627776:=by simpa [validB] using hv
    have hl:l ≠ 0:=by simpa [BR.fresh] using q2
    simp only [BR.fresh];omega
end
end Go.Proofs.YtdfgdpjlbcnkfaaGreatDoor.Q
namespace Go.Proofs.YtdfgdpjlbcnkfaaGreatDoor.Q
open Go Go.Proofs.YtdfgdpjlbcnkfaaGreatDoorAbs Go.Proofs
set_option linter.unusedVariables false
set_option linter.unusedSimpArgs false
structure FOk (r:BR) (p:Option PRd) (rr:RR):Prop where
  rp:RP r p rr
  ok:BOk r
  ch:∀ q,p=some q→q.len=r.len∧q.most=boundB r.most
theorem bound_le {m:Int} (h:0≤m):boundB m≤m:=by unfold boundB;split <;> omega
theorem bound_le2 (m:Int):boundB m≤1099511627776:=by unfold boundB;split <;> omega
theorem FOk.fresh {k l most:Int} (hv:validB k l=true) (hm : -1≤most) (hm2:most≤9223372036854775807) (hkm:¬ (k=1∧0≤most∧most<l)):FOk (BR.fresh k l most) (newX k most) (newR k most):=by
  refine ⟨fresh_RP hv,fresh_BOk hv hm hm2 hkm,fun q h=>?_⟩
  unfold newX at h
  split at h
  · cases h;exact ⟨rfl,rfl⟩
  · cases h
theorem feedX_kind (r:BR) (p:Option PRd) (xs:List UInt8):(feedX r p xs).2.2.1.kind=r.kind∧(feedX r p xs).2.2.1.length=r.length∧(feedX r p xs).2.2.1.most=r.most:=by
  cases p with
  | none=>simp only [feedX,feedB];split <;> (try split) <;> (try split) <;> exact ⟨rfl,rfl,rfl⟩
  | some p=>simp only [feedX,feedC];split <;> exact ⟨rfl,rfl,rfl⟩
theorem FOk.feed {r:BR} {p:Option PRd} {rr rr':RR} {xs:List UInt8} (h:FOk r p rr) (hr:RP (feedX r p xs).2.2.1 (feedX r p xs).2.2.2 rr') (hl:r.len+xs.length≤4398046511104):FOk (feedX r p xs).2.2.1 (feedX r p xs).2.2.2 rr':=by
  obtain ⟨k1,k2,k3⟩:=feedX_kind r p xs
  have hcode:=feedX_code (xs:=xs) h.rp h.ok.code
  cases p with
  | none =>
    refine ⟨hr,⟨feedB_inv h.ok.inv hl,by rw [k1];exact h.ok.kind,fun q=>?_,fun q1 q2=>?_,hcode⟩,fun q z=>(by cases z)⟩
    · rw [k1] at q
      have hd:=h.ok.zero q
      simp only [feedX]
      rw [feedB,if_pos (.inl hd)];exact hd
    · have hi:=(feedB_inv h.ok.inv hl).length (by rw [k1] at q1;exact (feedB_kind r xs).trans q1)
      rw [k1] at q1
      simp only [feedX] at q2 hi ⊢
      by_cases hs:r.done=true∨r.err.isSome=true
      · rw [feedB,if_pos hs] at q2 ⊢
        exact h.ok.lt q1 q2
      · rw [feedB,if_neg hs,if_pos q1] at q2 hi ⊢
        simp only at q2 hi ⊢
        have:=of_decide_eq_false q2
        omega
  | some q =>
    obtain ⟨c1,c2⟩:=h.ch q rfl
    have k:r.kind=2:=h.rp.1
    by_cases hs:r.done=true∨r.err.isSome=true
    · have hX:feedX r (some q) xs=(0,[],r,some q):=by simp only [feedX];rw [feedC,if_pos hs]
      rw [hX] at hr hcode ⊢
      exact ⟨hr,h.ok,h.ch⟩
    · have hX:feedX r (some q) xs=((((feedF q xs).1:Nat):Int),(feedF q xs).2.1,{ r with len:=r.len+(feedF q xs).2.1.length,done:=decide ((feedF q xs).2.2.state=8),err:=(feedF q xs).2.2.err },some (feedF q xs).2.2):=by simp only [feedX];rw [feedC,if_neg hs]
      obtain ⟨l1,l2⟩:=feed_len xs q
      have hi:=feed_inv xs q h.rp.2.2
      have hl1:=hi.len
      have hb0:=h.ok.inv.l0
      have hb:=bound_le2 r.most
      rw [hX] at hr hcode ⊢
      simp only at hr hcode ⊢
      rw [l1,l2,c1,c2] at hl1
      refine ⟨hr,⟨⟨by simp only;omega,by simp only;omega,fun z=>by simp only at z;omega,fun z=>?_⟩,.inr (.inr (.inl k)),fun z=>by simp only at z;omega,fun z=>by simp only at z;omega,hcode⟩,fun q' z=>?_⟩
      · simp only at z ⊢
        have:=bound_le z
        have:=h.ok.inv.most z
        omega
      · cases z;exact ⟨by simp only;rw [l1,c1],by rw [l2,c2]⟩
theorem endB_idem (r:BR):(endB (endB r).2).1=(endB r).1:=by
  unfold endB
  by_cases h:r.err.isSome=true∨r.done=true
  · rw [if_pos h];rw [if_pos h]
  · rw [if_neg h]
    by_cases k:r.kind=3
    · rw [if_pos k]
      have:r.err=none:=by
        cases q:r.err with
        | none=>rfl
        | some c=>exact absurd (.inl (by rw [q];rfl)) h
      simp [this]
    · rw [if_neg k]
      simp
theorem endB_kind (r:BR):(endB r).2.kind=r.kind:=by unfold endB;split <;> (try split) <;> rfl
theorem endB_code {r:BR} (h:∀ c,r.err=some c→c ≠ 0):(∀ c,(endB r).2.err=some c→c ≠ 0)∧∀ c,(endB r).1=some c→c ≠ 0:=by
  unfold endB
  split
  · exact ⟨h,h⟩
  · split
    · exact ⟨fun c q=>h c q,fun c q=>by cases q⟩
    · exact ⟨fun c q=>by cases q;decide,fun c q=>by cases q;decide⟩
theorem endB_rp {r:BR} {p:Option PRd} {rr:RR} (h:RP r p rr):RP (endB r).2 p rr:=by
  cases p with
  | none=>exact ⟨by rw [endB_kind];exact h.1,h.2⟩
  | some q=>exact ⟨by rw [endB_kind];exact h.1,h.2⟩
end Go.Proofs.YtdfgdpjlbcnkfaaGreatDoor.Q
namespace Go.Proofs.YtdfgdpjlbcnkfaaGreatDoor.Q
open Go Go.Proofs.YtdfgdpjlbcnkfaaGreatDoorAbs Go.Proofs
set_option linter.unusedVariables false
set_option linter.unusedSimpArgs false
set_option maxRecDepth 100000
set_option maxHeartbeats 4000000
attribute [local irreducible] YtdfgdpjlbcnkfaaGreatDoorAbs.O YtdfgdpjlbcnkfaaGreatDoorAbs.W YtdfgdpjlbcnkfaaGreatDoorAbs.C YtdfgdpjlbcnkfaaGreatDoorAbs.OK YtdfgdpjlbcnkfaaGreatDoorAbs.OKF YtdfgdpjlbcnkfaaGreatDoorAbs.OKT YtdfgdpjlbcnkfaaGreatDoorAbs.then_ YtdfgdpjlbcnkfaaGreatDoorAbs.inBlock_ YtdfgdpjlbcnkfaaGreatDoorAbs.bodyQ YtdfgdpjlbcnkfaaGreatDoorAbs.Cont
section
variable {I:Prims} {S:St} {Q:Value→St→Prop}
theorem XLen_C (h:HB I) {b:Nat} {r:BR} {p:Option PRd} {F:Nat→Prop} (hR:RB S b r p F) (hQ:Q (.int .i64 r.len) S):C Tryz.prog I 13 #[.pointer (some ⟨b,0,some 7⟩)] S Q:=by
  have hb:∃ q m,m≤7∧S.get b=some ⟨r.cells (.pointer q),65,true,m⟩∧b<S.next:=by
    cases hR with
    | plain m hm hk hb hn=>exact ⟨_,m,hm,hb,hn⟩
    | chunk bc tv lv hk hB=>obtain ⟨m,hm,hb⟩:=hB.cell;exact ⟨_,m,hm,hb,hB.hn⟩
  obtain ⟨q,m,hm,hb,hn⟩:=hb
  refine C_body (rs:=[.tmp 2]) (h.no 13 (by decide)) Tryz.func13 rfl rfl ok13 ?_
  obtain ⟨sz23,u24,sz5,u5,u9,u3,sz36,sz3,sz44,u37,sz34,u34,sz24,sz4,u4,sz58,u58,sz65,sz63,u63,sz42,sz26,u40,sz74,sz40,sz78,u83,sz81,sz9,sz92,sz89,u89,sz90,u90,u108,sz115,u115,sz133,u133,u138,u21,u145,u148,sz147⟩:=UF
  simp only [BR.cells] at hb
  repeat' (first | (with_reducible first|refine W_pushC fun K hK=>?_|refine W_blockI ?_|refine W_scopeI ?_|refine W_labelI ?_|refine W_skipI ?_|refine W_retI ?_|refine W_exitI ?_|refine then_normalI ?_|refine then_retI ?_|refine then_exitI ?_|refine inBlock_normalI ?_|refine inBlock_retI ?_|refine inBlock_exitI ?_|refine inBlock_exitN (by decide) ?_) | ((with_reducible first|refine bodyQ_normal0 ?_|refine bodyQ_normal1 ?_|refine bodyQ_normal2 ?_|refine bodyQ_normal3 ?_|refine bodyQ_normal4 ?_|refine bodyQ_ret0 ?_|refine bodyQ_ret1 ?_|refine bodyQ_ret2 ?_|refine bodyQ_ret3 ?_|refine bodyQ_ret4 ?_);(try simp only [EVB,Nat.reduceEqDiff,reduceIte])) | (with_reducible refine Cont.use (by assumption) ?_) | (with_reducible first|refine hcA ?_|refine hcB ?_) | ((with_reducible first|refine W_condG fun cA cB hcA hcB=>?_|refine W_regionI ?_|show O _ _ _ _ _ _ _ _|show OK _ _ _ _ _ _ _ _ _|show OKF _ _ _ _ _ _ _ _ _ _|show OKT _ _ _ _ _ _ _ _ _ _ _ _|show _∧_|show CG _ _ _|show CB _ _ _);simp (disch:=first|((with_reducible show isStop _=false);rfl)|((with_reducible show isP _=true);rfl)|((with_reducible show (isStop _ || isP _)=false);rfl)|assumption|(simp only [GSB,Nat.reduceEqDiff,reduceIte];done)|omega|(with_reducible decide)|(simp only [DSB,Go.Proofs.YtdfgdpjlbcnkfaaGreatDoorAbs.oneC,Nat.reduceAdd,Nat.reduceLeDiff] <;> omega)|fail) only [↓DN,↓reduceIte,UP,CGB,Int.reduceEq,Int.reduceLT,Int.reduceLE,Nat.reduceEqDiff,Nat.reduceAdd,Nat.reduceMul,Nat.reduceSub,Int.reduceToNat,Nat.reduceLeDiff,PF,isStop,isP,goInt,beq_self_eq_true,decide_true,decide_false,Int.toNat_natCast,Int.natCast_zero,nn_eq,nn_ne,hb]) | ((with_reducible refine CB_intro (fun ht=>hcA ?_) (fun ht=>hcB ?_)) <;> (first|(simp only [Bool.true_eq_false,Bool.false_eq_true] at ht;done)|((try simp only [Bool.not_eq_true',Bool.not_eq_false'] at ht);(try simp only [ht]);(try simp only [HTN] at ht);(try (exfalso;omega))))) | ((with_reducible refine W_regionI ?_);simp only [List.append_eq,List.cons_append,List.nil_append]) | (with_reducible refine O_splitG fun cA cB hcA hcB=>?_) | (exact hQ))
theorem RTrl_C (h:HI I) {r:BR} {p:Option PRd} {rr:RR} {la ta:Option Addr} {ln lc tc:Nat} (hP:RP r p rr) (hO:Own 74 2 S (.slice ta rr.trl.length tc) rr.trl.length (fldv rr.trl))
    (hQ:∀ v' B,Own 74 2 (S.push B) v' (trlX r p).length (fldv (trlX r p))→Q v' (S.push B)):C Tryz.prog I 19 #[bval r rr (.slice la ln lc) (.slice ta rr.trl.length tc)] S Q:=by
  refine C_body (rs:=[.tmp 2]) (h.no 19 (by decide)) Tryz.func19 rfl rfl ok19 ?_
  obtain ⟨sz23,u24,sz5,u5,u9,u3,sz36,sz3,sz44,u37,sz34,u34,sz24,sz4,u4,sz58,u58,sz65,sz63,u63,sz42,sz26,u40,sz74,sz40,sz78,u83,sz81,sz9,sz92,sz89,u89,sz90,u90,u108,sz115,u115,sz133,u133,u138,u21,u145,u148,sz147⟩:=UF
  simp only [bval,bcells]
  by_cases k2:r.kind=2
  · have d2:decide (r.kind=2)=true:=decide_eq_true k2
    cases p with
    | none=>exact absurd k2 hP.1
    | some q =>
    cases hd:r.done with
    | true =>
      have hT:trlX r (some q)=q.trailers:=by simp [trlX,hd]
      rw [hT] at hQ
      have ht:=hP.2.1.trl
      rw [← ht] at hQ
      repeat' (first | (with_reducible first|refine W_pushC fun K hK=>?_|refine W_blockI ?_|refine W_scopeI ?_|refine W_labelI ?_|refine W_skipI ?_|refine W_retI ?_|refine W_exitI ?_|refine then_normalI ?_|refine then_retI ?_|refine then_exitI ?_|refine inBlock_normalI ?_|refine inBlock_retI ?_|refine inBlock_exitI ?_|refine inBlock_exitN (by decide) ?_) | ((with_reducible first|refine bodyQ_normal0 ?_|refine bodyQ_normal1 ?_|refine bodyQ_normal2 ?_|refine bodyQ_normal3 ?_|refine bodyQ_normal4 ?_|refine bodyQ_ret0 ?_|refine bodyQ_ret1 ?_|refine bodyQ_ret2 ?_|refine bodyQ_ret3 ?_|refine bodyQ_ret4 ?_);(try simp only [EVB,Nat.reduceEqDiff,reduceIte])) | (with_reducible refine Cont.use (by assumption) ?_) | (with_reducible first|refine hcA ?_|refine hcB ?_) | ((with_reducible first|refine W_condG fun cA cB hcA hcB=>?_|refine W_regionI ?_|show O _ _ _ _ _ _ _ _|show OK _ _ _ _ _ _ _ _ _|show OKF _ _ _ _ _ _ _ _ _ _|show OKT _ _ _ _ _ _ _ _ _ _ _ _|show _∧_|show CG _ _ _|show CB _ _ _);simp (disch:=first|((with_reducible show isStop _=false);rfl)|((with_reducible show isP _=true);rfl)|((with_reducible show (isStop _ || isP _)=false);rfl)|assumption|(simp only [GSB,Nat.reduceEqDiff,reduceIte];done)|omega|(with_reducible decide)|(simp only [DSB,Go.Proofs.YtdfgdpjlbcnkfaaGreatDoorAbs.oneC,Nat.reduceAdd,Nat.reduceLeDiff] <;> omega)|fail) only [↓DN,↓reduceIte,UP,CGB,Int.reduceEq,Int.reduceLT,Int.reduceLE,Nat.reduceEqDiff,Nat.reduceAdd,Nat.reduceMul,Nat.reduceSub,Int.reduceToNat,Nat.reduceLeDiff,PF,isStop,isP,goInt,beq_self_eq_true,decide_true,decide_false,Int.toNat_natCast,Int.natCast_zero,nn_eq,nn_ne,d2]) | ((with_reducible refine CB_intro (fun ht=>hcA ?_) (fun ht=>hcB ?_)) <;> (first|(simp only [Bool.true_eq_false,Bool.false_eq_true] at ht;done)|((try simp only [Bool.not_eq_true',Bool.not_eq_false'] at ht);(try simp only [ht]);(try simp only [HTN] at ht);(try (exfalso;omega))))) | ((with_reducible refine W_regionI ?_);simp only [List.append_eq,List.cons_append,List.nil_append]) | (with_reducible refine O_splitG fun cA cB hcA hcB=>?_) | (exact hQ _ _ (own_push hO)))
    | false =>
      have hT:trlX r (some q) = []:=by simp [trlX,hd]
      rw [hT] at hQ
      repeat' (first | (with_reducible first|refine W_pushC fun K hK=>?_|refine W_blockI ?_|refine W_scopeI ?_|refine W_labelI ?_|refine W_skipI ?_|refine W_retI ?_|refine W_exitI ?_|refine then_normalI ?_|refine then_retI ?_|refine then_exitI ?_|refine inBlock_normalI ?_|refine inBlock_retI ?_|refine inBlock_exitI ?_|refine inBlock_exitN (by decide) ?_) | ((with_reducible first|refine bodyQ_normal0 ?_|refine bodyQ_normal1 ?_|refine bodyQ_normal2 ?_|refine bodyQ_normal3 ?_|refine bodyQ_normal4 ?_|refine bodyQ_ret0 ?_|refine bodyQ_ret1 ?_|refine bodyQ_ret2 ?_|refine bodyQ_ret3 ?_|refine bodyQ_ret4 ?_);(try simp only [EVB,Nat.reduceEqDiff,reduceIte])) | (with_reducible refine Cont.use (by assumption) ?_) | (with_reducible first|refine hcA ?_|refine hcB ?_) | ((with_reducible first|refine W_condG fun cA cB hcA hcB=>?_|refine W_regionI ?_|show O _ _ _ _ _ _ _ _|show OK _ _ _ _ _ _ _ _ _|show OKF _ _ _ _ _ _ _ _ _ _|show OKT _ _ _ _ _ _ _ _ _ _ _ _|show _∧_|show CG _ _ _|show CB _ _ _);simp (disch:=first|((with_reducible show isStop _=false);rfl)|((with_reducible show isP _=true);rfl)|((with_reducible show (isStop _ || isP _)=false);rfl)|assumption|(simp only [GSB,Nat.reduceEqDiff,reduceIte];done)|omega|(with_reducible decide)|(simp only [DSB,Go.Proofs.YtdfgdpjlbcnkfaaGreatDoorAbs.oneC,Nat.reduceAdd,Nat.reduceLeDiff] <;> omega)|fail) only [↓DN,↓reduceIte,UP,CGB,Int.reduceEq,Int.reduceLT,Int.reduceLE,Nat.reduceEqDiff,Nat.reduceAdd,Nat.reduceMul,Nat.reduceSub,Int.reduceToNat,Nat.reduceLeDiff,PF,isStop,isP,goInt,beq_self_eq_true,decide_true,decide_false,Int.toNat_natCast,Int.natCast_zero,nn_eq,nn_ne,d2]) | ((with_reducible refine CB_intro (fun ht=>hcA ?_) (fun ht=>hcB ?_)) <;> (first|(simp only [Bool.true_eq_false,Bool.false_eq_true] at ht;done)|((try simp only [Bool.not_eq_true',Bool.not_eq_false'] at ht);(try simp only [ht]);(try simp only [HTN] at ht);(try (exfalso;omega))))) | ((with_reducible refine W_regionI ?_);simp only [List.append_eq,List.cons_append,List.nil_append]) | (with_reducible refine O_splitG fun cA cB hcA hcB=>?_) | (exact hQ _ _ (Own.nil _ _ _)))
  · have d2:decide (r.kind=2)=false:=decide_eq_false k2
    cases p with
    | some q=>exact absurd hP.1 k2
    | none =>
    have hT:trlX r none = []:=rfl
    rw [hT] at hQ
    repeat' (first | (with_reducible first|refine W_pushC fun K hK=>?_|refine W_blockI ?_|refine W_scopeI ?_|refine W_labelI ?_|refine W_skipI ?_|refine W_retI ?_|refine W_exitI ?_|refine then_normalI ?_|refine then_retI ?_|refine then_exitI ?_|refine inBlock_normalI ?_|refine inBlock_retI ?_|refine inBlock_exitI ?_|refine inBlock_exitN (by decide) ?_) | ((with_reducible first|refine bodyQ_normal0 ?_|refine bodyQ_normal1 ?_|refine bodyQ_normal2 ?_|refine bodyQ_normal3 ?_|refine bodyQ_normal4 ?_|refine bodyQ_ret0 ?_|refine bodyQ_ret1 ?_|refine bodyQ_ret2 ?_|refine bodyQ_ret3 ?_|refine bodyQ_ret4 ?_);(try simp only [EVB,Nat.reduceEqDiff,reduceIte])) | (with_reducible refine Cont.use (by assumption) ?_) | (with_reducible first|refine hcA ?_|refine hcB ?_) | ((with_reducible first|refine W_condG fun cA cB hcA hcB=>?_|refine W_regionI ?_|show O _ _ _ _ _ _ _ _|show OK _ _ _ _ _ _ _ _ _|show OKF _ _ _ _ _ _ _ _ _ _|show OKT _ _ _ _ _ _ _ _ _ _ _ _|show _∧_|show CG _ _ _|show CB _ _ _);simp (disch:=first|((with_reducible show isStop _=false);rfl)|((with_reducible show isP _=true);rfl)|((with_reducible show (isStop _ || isP _)=false);rfl)|assumption|(simp only [GSB,Nat.reduceEqDiff,reduceIte];done)|omega|(with_reducible decide)|(simp only [DSB,Go.Proofs.YtdfgdpjlbcnkfaaGreatDoorAbs.oneC,Nat.reduceAdd,Nat.reduceLeDiff] <;> omega)|fail) only [↓DN,↓reduceIte,UP,CGB,Int.reduceEq,Int.reduceLT,Int.reduceLE,Nat.reduceEqDiff,Nat.reduceAdd,Nat.reduceMul,Nat.reduceSub,Int.reduceToNat,Nat.reduceLeDiff,PF,isStop,isP,goInt,beq_self_eq_true,decide_true,decide_false,Int.toNat_natCast,Int.natCast_zero,nn_eq,nn_ne,d2]) | ((with_reducible refine CB_intro (fun ht=>hcA ?_) (fun ht=>hcB ?_)) <;> (first|(simp only [Bool.true_eq_false,Bool.false_eq_true] at ht;done)|((try simp only [Bool.not_eq_true',Bool.not_eq_false'] at ht);(try simp only [ht]);(try simp only [HTN] at ht);(try (exfalso;omega))))) | ((with_reducible refine W_regionI ?_);simp only [List.append_eq,List.cons_append,List.nil_append]) | (with_reducible refine O_splitG fun cA cB hcA hcB=>?_) | (exact hQ _ _ (Own.nil _ _ _)))
end
end Go.Proofs.YtdfgdpjlbcnkfaaGreatDoor.Q
namespace Go.Proofs.YtdfgdpjlbcnkfaaGreatDoor.Q
open Go Go.Proofs.YtdfgdpjlbcnkfaaGreatDoorAbs Go.Proofs
set_option linter.unusedVariables false
set_option linter.unusedSimpArgs false
set_option maxRecDepth 100000
set_option maxHeartbeats 4000000
theorem O_lit0L {P:Program} {I:Prims} {ops:Array Oper} {r:List Oper} {Q:Env→St→Prop} {e:Env} {S:St} {dst:Option Tmp} {ty:TypeId} {pos:String} {after:Array Edge} {s x:Operand} {t tx elem size bytes m b o L:Nat} {z:Value} {ys:List Value} (hu:P.underlying t=some (.slice elem)) (hs:asize P elem=some size) (hb:abytes P elem=some bytes) (hz:azero P elem=some z)
    (hc:0<size∧0<bytes∧z.cells.size=size) (hv:e.ev s=.slice (some ⟨b,o,some L⟩) 0 0) (hx:asrc P S tx size (e.ev x)=some (m,ys)) (hm:0<m) (hy:ys.length=m * size∧ys.all oneC=true) (hl:(3 * m+2048) * bytes≤281474976710656)
    (hk:∀ v' S',Own elem size S' v' m ys→KpL S S'→(∀ i,blkOf v'=some i→S.next≤i)→O P I ops r [] Q (e.putO dst v') S') :
    O P I ops (⟨dst,.call ⟨.builtin .append,#[s,x],#[t,tx]⟩,ty,pos,after,none⟩ :: r) [] Q e S:=by
  have ha:aappend P S t tx (e.ev s) (e.ev x)=some (.slice (some ⟨S.next,0,some ys.length⟩) m (UNK+size),S.push ⟨ys,elem,true,0⟩):=by
    rw [hv]
    have h1:¬ (0:Nat)=UNK+size:=by unfold UNK;omega
    have h2:¬ UNK≤0:=by decide
    simp only [aappend,hu,hs,hb,hz,hc,and_self,if_true,hx,if_neg (show ¬ m=0 by omega),if_neg h1,if_neg h2,if_neg (show ¬ 0+m≤0 by omega)]
    rw [if_pos ⟨by simpa using hl,by omega,rfl⟩]
    simp
  rw [O_step rfl]
  have:aop P e.ev ⟨dst,.call ⟨.builtin .append,#[s,x],#[t,tx]⟩,ty,pos,after,none⟩ S=some (.slice (some ⟨S.next,0,some ys.length⟩) m (UNK+size),S.push ⟨ys,elem,true,0⟩):=by
    rw [aop_builtin]
    show alt (aappend P S t tx (e.ev s) (e.ev x)) _=_
    rw [ha,alt_some]
  rw [this]
  refine ⟨rfl,hk _ _ ⟨hy.1,hy.2,.inr ⟨S.next,0,rfl,S.get_push_self _,Nat.zero_le _,by simp [sO],hm⟩⟩ (KpL.push _ _) (fun i hi=>by cases hi;exact Nat.le_refl _)⟩
attribute [local irreducible] YtdfgdpjlbcnkfaaGreatDoorAbs.O YtdfgdpjlbcnkfaaGreatDoorAbs.W YtdfgdpjlbcnkfaaGreatDoorAbs.C YtdfgdpjlbcnkfaaGreatDoorAbs.OK YtdfgdpjlbcnkfaaGreatDoorAbs.OKF YtdfgdpjlbcnkfaaGreatDoorAbs.OKT YtdfgdpjlbcnkfaaGreatDoorAbs.then_ YtdfgdpjlbcnkfaaGreatDoorAbs.inBlock_ YtdfgdpjlbcnkfaaGreatDoorAbs.bodyQ YtdfgdpjlbcnkfaaGreatDoorAbs.Cont
section
variable {I:Prims} {S:St} {Q:Value→St→Prop}
theorem CloneF_L (h:HI I) {v:Value} {xs:List Fld} (hO:Own 74 2 S v xs.length (fldv xs)) (hn:xs.length≤1048576)
    (hQ:∀ v' S',Own 74 2 S' v' xs.length (fldv xs)→KpL S S'→(∀ i,blkOf v'=some i→S.next≤i)→Q v' S'):C Tryz.prog I 37 #[v] S Q:=by
  refine C_body (rs:=[.tmp 2]) (h.no 37 (by decide)) Tryz.func37 rfl rfl ok37 ?_
  obtain ⟨sz23,u24,sz5,u5,u9,u3,sz36,sz3,sz44,u37,sz34,u34,sz24,sz4,u4,sz58,u58,sz65,sz63,u63,sz42,sz26,u40,sz74,sz40,sz78,u83,sz81,sz9,sz92,sz89,u89,sz90,u90,u108,sz115,u115,sz133,u133,u138,u21,u145,u148,sz147⟩:=UF
  by_cases h0:xs.length=0
  · have hv:v=.slice none 0 0:=by
      rcases hO.2.2 with ⟨e,_⟩|⟨b,m,_,_,_,_,q⟩
      · exact e
      · omega
    subst hv
    repeat' (first | (with_reducible first|refine W_pushC fun K hK=>?_|refine W_blockI ?_|refine W_scopeI ?_|refine W_labelI ?_|refine W_skipI ?_|refine W_retI ?_|refine W_exitI ?_|refine then_normalI ?_|refine then_retI ?_|refine then_exitI ?_|refine inBlock_normalI ?_|refine inBlock_retI ?_|refine inBlock_exitI ?_|refine inBlock_exitN (by decide) ?_) | ((with_reducible first|refine bodyQ_normal0 ?_|refine bodyQ_normal1 ?_|refine bodyQ_normal2 ?_|refine bodyQ_normal3 ?_|refine bodyQ_normal4 ?_|refine bodyQ_ret0 ?_|refine bodyQ_ret1 ?_|refine bodyQ_ret2 ?_|refine bodyQ_ret3 ?_|refine bodyQ_ret4 ?_);(try simp only [EVB,Nat.reduceEqDiff,reduceIte])) | (with_reducible refine Cont.use (by assumption) ?_) | (with_reducible first|refine hcA ?_|refine hcB ?_) | ((with_reducible first|refine W_condG fun cA cB hcA hcB=>?_|refine W_regionI ?_|show O _ _ _ _ _ _ _ _|show OK _ _ _ _ _ _ _ _ _|show OKF _ _ _ _ _ _ _ _ _ _|show OKT _ _ _ _ _ _ _ _ _ _ _ _|show _∧_|show CG _ _ _|show CB _ _ _);simp (disch:=first|((with_reducible show isStop _=false);rfl)|((with_reducible show isP _=true);rfl)|((with_reducible show (isStop _ || isP _)=false);rfl)|assumption|(simp only [GSB,Nat.reduceEqDiff,reduceIte];done)|omega|(with_reducible decide)|(simp only [DSB,Go.Proofs.YtdfgdpjlbcnkfaaGreatDoorAbs.oneC,Nat.reduceAdd,Nat.reduceLeDiff] <;> omega)|fail) only [↓DN,↓reduceIte,UP,CGB,Int.reduceEq,Int.reduceLT,Int.reduceLE,Nat.reduceEqDiff,Nat.reduceAdd,Nat.reduceMul,Nat.reduceSub,Int.reduceToNat,Nat.reduceLeDiff,PF,isStop,isP,goInt,beq_self_eq_true,decide_true,decide_false,Int.toNat_natCast,Int.natCast_zero,nn_eq,nn_ne,nsl_eq]) | ((with_reducible refine CB_intro (fun ht=>hcA ?_) (fun ht=>hcB ?_)) <;> (first|(simp only [Bool.true_eq_false,Bool.false_eq_true] at ht;done)|((try simp only [Bool.not_eq_true',Bool.not_eq_false'] at ht);(try simp only [ht]);(try simp only [HTN] at ht);(try (exfalso;omega))))) | ((with_reducible refine W_regionI ?_);simp only [List.append_eq,List.cons_append,List.nil_append]) | (with_reducible refine O_splitG fun cA cB hcA hcB=>?_) | (exact hQ _ _ hO (KpL.refl _) (fun i hi=>by cases hi)))
  · obtain ⟨b,m,rfl,h1,h2,h3⟩:=own_some hO (by omega)
    have hp:0<xs.length:=by omega
    repeat' (first | (with_reducible first|refine W_pushC fun K hK=>?_|refine W_blockI ?_|refine W_scopeI ?_|refine W_labelI ?_|refine W_skipI ?_|refine W_retI ?_|refine W_exitI ?_|refine then_normalI ?_|refine then_retI ?_|refine then_exitI ?_|refine inBlock_normalI ?_|refine inBlock_retI ?_|refine inBlock_exitI ?_|refine inBlock_exitN (by decide) ?_) | ((with_reducible first|refine bodyQ_normal0 ?_|refine bodyQ_normal1 ?_|refine bodyQ_normal2 ?_|refine bodyQ_normal3 ?_|refine bodyQ_normal4 ?_|refine bodyQ_ret0 ?_|refine bodyQ_ret1 ?_|refine bodyQ_ret2 ?_|refine bodyQ_ret3 ?_|refine bodyQ_ret4 ?_);(try simp only [EVB,Nat.reduceEqDiff,reduceIte])) | (with_reducible refine Cont.use (by assumption) ?_) | (with_reducible first|refine hcA ?_|refine hcB ?_) | ((with_reducible first|refine W_condG fun cA cB hcA hcB=>?_|refine W_regionI ?_|show O _ _ _ _ _ _ _ _|show OK _ _ _ _ _ _ _ _ _|show OKF _ _ _ _ _ _ _ _ _ _|show OKT _ _ _ _ _ _ _ _ _ _ _ _|show _∧_|show CG _ _ _|show CB _ _ _);simp (disch:=first|((with_reducible show isStop _=false);rfl)|((with_reducible show isP _=true);rfl)|((with_reducible show (isStop _ || isP _)=false);rfl)|assumption|(simp only [GSB,Nat.reduceEqDiff,reduceIte];done)|omega|(with_reducible decide)|(simp only [DSB,Go.Proofs.YtdfgdpjlbcnkfaaGreatDoorAbs.oneC,Nat.reduceAdd,Nat.reduceLeDiff] <;> omega)|fail) only [↓DN,↓reduceIte,UP,CGB,Int.reduceEq,Int.reduceLT,Int.reduceLE,Nat.reduceEqDiff,Nat.reduceAdd,Nat.reduceMul,Nat.reduceSub,Int.reduceToNat,Nat.reduceLeDiff,PF,isStop,isP,goInt,beq_self_eq_true,decide_true,decide_false,Int.toNat_natCast,Int.natCast_zero,nn_eq,nn_ne]) | ((with_reducible refine CB_intro (fun ht=>hcA ?_) (fun ht=>hcB ?_)) <;> (first|(simp only [Bool.true_eq_false,Bool.false_eq_true] at ht;done)|((try simp only [Bool.not_eq_true',Bool.not_eq_false'] at ht);(try simp only [ht]);(try simp only [HTN] at ht);(try (exfalso;omega))))) | ((with_reducible refine W_regionI ?_);simp only [List.append_eq,List.cons_append,List.nil_append]) | (with_reducible refine O_splitG fun cA cB hcA hcB=>?_))
    refine O_lit0L (P:=Tryz.prog) (elem:=74) (size:=2) (bytes:=32) (m:=xs.length) (ys:=fldv xs) u40 sz74 by74 ze74 ⟨by decide,by decide,rfl⟩ (by simp only [EVB,Nat.reduceEqDiff,reduceIte];rfl) (by simp only [EVB,Nat.reduceEqDiff,reduceIte];exact asrc_own (own_push hO) u40) (by omega) ⟨hO.1,hO.2.1⟩ (by omega) fun v1 S1 hO1 hKp hB=>?_
    repeat' (first | (with_reducible first|refine W_pushC fun K hK=>?_|refine W_blockI ?_|refine W_scopeI ?_|refine W_labelI ?_|refine W_skipI ?_|refine W_retI ?_|refine W_exitI ?_|refine then_normalI ?_|refine then_retI ?_|refine then_exitI ?_|refine inBlock_normalI ?_|refine inBlock_retI ?_|refine inBlock_exitI ?_|refine inBlock_exitN (by decide) ?_) | ((with_reducible first|refine bodyQ_normal0 ?_|refine bodyQ_normal1 ?_|refine bodyQ_normal2 ?_|refine bodyQ_normal3 ?_|refine bodyQ_normal4 ?_|refine bodyQ_ret0 ?_|refine bodyQ_ret1 ?_|refine bodyQ_ret2 ?_|refine bodyQ_ret3 ?_|refine bodyQ_ret4 ?_);(try simp only [EVB,Nat.reduceEqDiff,reduceIte])) | (with_reducible refine Cont.use (by assumption) ?_) | (with_reducible first|refine hcA ?_|refine hcB ?_) | ((with_reducible first|refine W_condG fun cA cB hcA hcB=>?_|refine W_regionI ?_|show O _ _ _ _ _ _ _ _|show OK _ _ _ _ _ _ _ _ _|show OKF _ _ _ _ _ _ _ _ _ _|show OKT _ _ _ _ _ _ _ _ _ _ _ _|show _∧_|show CG _ _ _|show CB _ _ _);simp (disch:=first|((with_reducible show isStop _=false);rfl)|((with_reducible show isP _=true);rfl)|((with_reducible show (isStop _ || isP _)=false);rfl)|assumption|(simp only [GSB,Nat.reduceEqDiff,reduceIte];done)|omega|(with_reducible decide)|(simp only [DSB,Go.Proofs.YtdfgdpjlbcnkfaaGreatDoorAbs.oneC,Nat.reduceAdd,Nat.reduceLeDiff] <;> omega)|fail) only [↓DN,↓reduceIte,UP,CGB,Int.reduceEq,Int.reduceLT,Int.reduceLE,Nat.reduceEqDiff,Nat.reduceAdd,Nat.reduceMul,Nat.reduceSub,Int.reduceToNat,Nat.reduceLeDiff,PF,isStop,isP,goInt,beq_self_eq_true,decide_true,decide_false,Int.toNat_natCast,Int.natCast_zero,nn_eq,nn_ne]) | ((with_reducible refine CB_intro (fun ht=>hcA ?_) (fun ht=>hcB ?_)) <;> (first|(simp only [Bool.true_eq_false,Bool.false_eq_true] at ht;done)|((try simp only [Bool.not_eq_true',Bool.not_eq_false'] at ht);(try simp only [ht]);(try simp only [HTN] at ht);(try (exfalso;omega))))) | ((with_reducible refine W_regionI ?_);simp only [List.append_eq,List.cons_append,List.nil_append]) | (with_reducible refine O_splitG fun cA cB hcA hcB=>?_) | (exact hQ _ _ hO1 ((KpL.push _ _).trans hKp) (fun i hi=>Nat.le_trans (Nat.le_succ _) (hB i hi))))
theorem Trailers_L (h:HI I) {b m:Nat} {r:PRd} {tv lv:Value} (hR:Rd S b r tv lv m) (hn:r.trailers.length≤1048576)
    (hQ:∀ v' S',Own 74 2 S' v' r.trailers.length (fldv r.trailers)→KpL S S'→(∀ i,blkOf v'=some i→S.next≤i)→Q v' S'):C Tryz.prog I 27 #[.pointer (some ⟨b,0,some 11⟩)] S Q:=by
  refine C_body (rs:=[.tmp 2]) (h.no 27 (by decide)) Tryz.func27 rfl rfl ok27 ?_
  obtain ⟨la,lc,rfl⟩:=own_slice hR.trl
  have hb:=hR.cell;have hm:=hR.hm;have hnb:=hR.hn
  simp only [CR.as,CR.cells] at hb
  obtain ⟨sz23,u24,sz5,u5,u9,u3,sz36,sz3,sz44,u37,sz34,u34,sz24,sz4,u4,sz58,u58,sz65,sz63,u63,sz42,sz26,u40,sz74,sz40,sz78,u83,sz81,sz9,sz92,sz89,u89,sz90,u90,u108,sz115,u115,sz133,u133,u138,u21,u145,u148,sz147⟩:=UF
  repeat' (first | (with_reducible first|refine W_pushC fun K hK=>?_|refine W_blockI ?_|refine W_scopeI ?_|refine W_labelI ?_|refine W_skipI ?_|refine W_retI ?_|refine W_exitI ?_|refine then_normalI ?_|refine then_retI ?_|refine then_exitI ?_|refine inBlock_normalI ?_|refine inBlock_retI ?_|refine inBlock_exitI ?_|refine inBlock_exitN (by decide) ?_) | ((with_reducible first|refine bodyQ_normal0 ?_|refine bodyQ_normal1 ?_|refine bodyQ_normal2 ?_|refine bodyQ_normal3 ?_|refine bodyQ_normal4 ?_|refine bodyQ_ret0 ?_|refine bodyQ_ret1 ?_|refine bodyQ_ret2 ?_|refine bodyQ_ret3 ?_|refine bodyQ_ret4 ?_);(try simp only [EVB,Nat.reduceEqDiff,reduceIte])) | ((with_reducible show C _ _ _ _ _ _);first|(refine CloneF_L h hR.trl hn (fun v' S' h1 h2 h3=>?_))) | (with_reducible refine Cont.use (by assumption) ?_) | (with_reducible first|refine hcA ?_|refine hcB ?_) | ((with_reducible first|refine W_condG fun cA cB hcA hcB=>?_|refine W_regionI ?_|show O _ _ _ _ _ _ _ _|show OK _ _ _ _ _ _ _ _ _|show OKF _ _ _ _ _ _ _ _ _ _|show OKT _ _ _ _ _ _ _ _ _ _ _ _|show _∧_|show CG _ _ _|show CB _ _ _);simp (disch:=first|((with_reducible show isStop _=false);rfl)|((with_reducible show isP _=true);rfl)|((with_reducible show (isStop _ || isP _)=false);rfl)|assumption|(simp only [GSB,Nat.reduceEqDiff,reduceIte];done)|omega|(with_reducible decide)|(simp only [DSB,Go.Proofs.YtdfgdpjlbcnkfaaGreatDoorAbs.oneC,Nat.reduceAdd,Nat.reduceLeDiff] <;> omega)|fail) only [↓DN,↓reduceIte,UP,CGB,Int.reduceEq,Int.reduceLT,Int.reduceLE,Nat.reduceEqDiff,Nat.reduceAdd,Nat.reduceMul,Nat.reduceSub,Int.reduceToNat,Nat.reduceLeDiff,PF,isStop,isP,goInt,beq_self_eq_true,decide_true,decide_false,Int.toNat_natCast,Int.natCast_zero,nn_eq,nn_ne,hb]) | ((with_reducible refine CB_intro (fun ht=>hcA ?_) (fun ht=>hcB ?_)) <;> (first|(simp only [Bool.true_eq_false,Bool.false_eq_true] at ht;done)|((try simp only [Bool.not_eq_true',Bool.not_eq_false'] at ht);(try simp only [ht]);(try simp only [HTN] at ht);(try (exfalso;omega))))) | ((with_reducible refine W_regionI ?_);simp only [List.append_eq,List.cons_append,List.nil_append]) | (with_reducible refine O_splitG fun cA cB hcA hcB=>?_) | (exact hQ _ _ h1 h2 h3))
theorem BTrlC_L (h:HB I) {b bc:Nat} {r:BR} {p:PRd} {tv lv:Value} (hB:BC S b bc r p tv lv) (hn:r.done=true→p.trailers.length≤1048576)
    (hQ:∀ v' S',Own 74 2 S' v' (if r.done then p.trailers else []).length (fldv (if r.done then p.trailers else []))→KpL S S'→(∀ i,blkOf v'=some i→S.next≤i)→Q v' S') :
    C Tryz.prog I 18 #[.pointer (some ⟨b,0,some 7⟩)] S Q:=by
  refine C_body (rs:=[.tmp 2]) (h.no 18 (by decide)) Tryz.func18 rfl rfl ok18 ?_
  obtain ⟨sz23,u24,sz5,u5,u9,u3,sz36,sz3,sz44,u37,sz34,u34,sz24,sz4,u4,sz58,u58,sz65,sz63,u63,sz42,sz26,u40,sz74,sz40,sz78,u83,sz81,sz9,sz92,sz89,u89,sz90,u90,u108,sz115,u115,sz133,u133,u138,u21,u145,u148,sz147⟩:=UF
  obtain ⟨⟨m,hm,hb⟩,hnb,hne,ht',hl',⟨mr,hR⟩,hi⟩:=id hB
  simp only [BR.cells] at hb
  cases hd:r.done
  · rw [hd] at hQ
    simp only [Bool.false_eq_true,if_false] at hQ
    repeat' (first | (with_reducible first|refine W_pushC fun K hK=>?_|refine W_blockI ?_|refine W_scopeI ?_|refine W_labelI ?_|refine W_skipI ?_|refine W_retI ?_|refine W_exitI ?_|refine then_normalI ?_|refine then_retI ?_|refine then_exitI ?_|refine inBlock_normalI ?_|refine inBlock_retI ?_|refine inBlock_exitI ?_|refine inBlock_exitN (by decide) ?_) | ((with_reducible first|refine bodyQ_normal0 ?_|refine bodyQ_normal1 ?_|refine bodyQ_normal2 ?_|refine bodyQ_normal3 ?_|refine bodyQ_normal4 ?_|refine bodyQ_ret0 ?_|refine bodyQ_ret1 ?_|refine bodyQ_ret2 ?_|refine bodyQ_ret3 ?_|refine bodyQ_ret4 ?_);(try simp only [EVB,Nat.reduceEqDiff,reduceIte])) | (with_reducible refine Cont.use (by assumption) ?_) | (with_reducible first|refine hcA ?_|refine hcB ?_) | ((with_reducible first|refine W_condG fun cA cB hcA hcB=>?_|refine W_regionI ?_|show O _ _ _ _ _ _ _ _|show OK _ _ _ _ _ _ _ _ _|show OKF _ _ _ _ _ _ _ _ _ _|show OKT _ _ _ _ _ _ _ _ _ _ _ _|show _∧_|show CG _ _ _|show CB _ _ _);simp (disch:=first|((with_reducible show isStop _=false);rfl)|((with_reducible show isP _=true);rfl)|((with_reducible show (isStop _ || isP _)=false);rfl)|assumption|(simp only [GSB,Nat.reduceEqDiff,reduceIte];done)|omega|(with_reducible decide)|(simp only [DSB,Go.Proofs.YtdfgdpjlbcnkfaaGreatDoorAbs.oneC,Nat.reduceAdd,Nat.reduceLeDiff] <;> omega)|fail) only [↓DN,↓reduceIte,UP,CGB,Int.reduceEq,Int.reduceLT,Int.reduceLE,Nat.reduceEqDiff,Nat.reduceAdd,Nat.reduceMul,Nat.reduceSub,Int.reduceToNat,Nat.reduceLeDiff,PF,isStop,isP,goInt,beq_self_eq_true,decide_true,decide_false,Int.toNat_natCast,Int.natCast_zero,nn_eq,nn_ne,hb,hd]) | ((with_reducible refine CB_intro (fun ht=>hcA ?_) (fun ht=>hcB ?_)) <;> (first|(simp only [Bool.true_eq_false,Bool.false_eq_true] at ht;done)|((try simp only [Bool.not_eq_true',Bool.not_eq_false'] at ht);(try simp only [ht]);(try simp only [HTN] at ht);(try (exfalso;omega))))) | ((with_reducible refine W_regionI ?_);simp only [List.append_eq,List.cons_append,List.nil_append]) | (with_reducible refine O_splitG fun cA cB hcA hcB=>?_) | (exact hQ _ _ (Own.nil _ _ _) (KpL.refl _) (fun _ q=>by cases q)))
  · rw [hd] at hQ
    have hn':=hn hd
    simp only [if_true] at hQ
    repeat' (first | (with_reducible first|refine W_pushC fun K hK=>?_|refine W_blockI ?_|refine W_scopeI ?_|refine W_labelI ?_|refine W_skipI ?_|refine W_retI ?_|refine W_exitI ?_|refine then_normalI ?_|refine then_retI ?_|refine then_exitI ?_|refine inBlock_normalI ?_|refine inBlock_retI ?_|refine inBlock_exitI ?_|refine inBlock_exitN (by decide) ?_) | ((with_reducible first|refine bodyQ_normal0 ?_|refine bodyQ_normal1 ?_|refine bodyQ_normal2 ?_|refine bodyQ_normal3 ?_|refine bodyQ_normal4 ?_|refine bodyQ_ret0 ?_|refine bodyQ_ret1 ?_|refine bodyQ_ret2 ?_|refine bodyQ_ret3 ?_|refine bodyQ_ret4 ?_);(try simp only [EVB,Nat.reduceEqDiff,reduceIte])) | ((with_reducible show C _ _ _ _ _ _);first|(refine Trailers_L h.toHI hR hn' (fun v' S' h1 h2 h3=>?_))) | (with_reducible refine Cont.use (by assumption) ?_) | (with_reducible first|refine hcA ?_|refine hcB ?_) | ((with_reducible first|refine W_condG fun cA cB hcA hcB=>?_|refine W_regionI ?_|show O _ _ _ _ _ _ _ _|show OK _ _ _ _ _ _ _ _ _|show OKF _ _ _ _ _ _ _ _ _ _|show OKT _ _ _ _ _ _ _ _ _ _ _ _|show _∧_|show CG _ _ _|show CB _ _ _);simp (disch:=first|((with_reducible show isStop _=false);rfl)|((with_reducible show isP _=true);rfl)|((with_reducible show (isStop _ || isP _)=false);rfl)|assumption|(simp only [GSB,Nat.reduceEqDiff,reduceIte];done)|omega|(with_reducible decide)|(simp only [DSB,Go.Proofs.YtdfgdpjlbcnkfaaGreatDoorAbs.oneC,Nat.reduceAdd,Nat.reduceLeDiff] <;> omega)|fail) only [↓DN,↓reduceIte,UP,CGB,Int.reduceEq,Int.reduceLT,Int.reduceLE,Nat.reduceEqDiff,Nat.reduceAdd,Nat.reduceMul,Nat.reduceSub,Int.reduceToNat,Nat.reduceLeDiff,PF,isStop,isP,goInt,beq_self_eq_true,decide_true,decide_false,Int.toNat_natCast,Int.natCast_zero,nn_eq,nn_ne,hb,hd]) | ((with_reducible refine CB_intro (fun ht=>hcA ?_) (fun ht=>hcB ?_)) <;> (first|(simp only [Bool.true_eq_false,Bool.false_eq_true] at ht;done)|((try simp only [Bool.not_eq_true',Bool.not_eq_false'] at ht);(try simp only [ht]);(try simp only [HTN] at ht);(try (exfalso;omega))))) | ((with_reducible refine W_regionI ?_);simp only [List.append_eq,List.cons_append,List.nil_append]) | (with_reducible refine O_splitG fun cA cB hcA hcB=>?_) | (exact hQ _ _ h1 h2 h3))
theorem XTrl_L (h:HB I) {b:Nat} {r:BR} {p:Option PRd} {F:Nat→Prop} (hR:RB S b r p F) (hn:(trlX r p).length≤1048576)
    (hQ:∀ v' S',Own 74 2 S' v' (trlX r p).length (fldv (trlX r p))→KpL S S'→(∀ i,blkOf v'=some i→S.next≤i)→Q v' S') :
    C Tryz.prog I 18 #[.pointer (some ⟨b,0,some 7⟩)] S Q:=by
  cases hR with
  | plain m hm hk hb hn2=>exact BTrl0_C h hb hm hn2 (hQ _ _ (Own.nil _ _ _) (KpL.refl _) (fun _ q=>by cases q))
  | chunk bc tv lv hk hB =>
    rename_i p
    refine BTrlC_L h hB (fun q=>?_) hQ
    simpa [trlX,q] using hn
theorem RB.low {S:St} {b:Nat} {r:BR} {p:Option PRd} {F:Nat→Prop} (h:RB S b r p F) (n:Nat):RB (S.withLow n) b r p F:=h.kept (o:=none) ⟨Nat.le_refl _,fun _ _ _=>rfl⟩ (fun _ q=>by cases q)
theorem feedX_len (r:BR) (p:Option PRd) (xs:List UInt8) (h:r.kind=1→r.len≤r.length):(feedX r p xs).2.2.1.len≤r.len+xs.length:=by
  cases p with
  | none =>
    simp only [feedX,feedB]
    split
    · simp only;omega
    · split
      · simp only;split <;> omega
      · split
        · simp only;omega
        · simp only;omega
  | some p =>
    simp only [feedX,feedC]
    have:=feed_out xs p
    split
    · simp only;omega
    · simp only;omega
end
end Go.Proofs.YtdfgdpjlbcnkfaaGreatDoor.Q
namespace Go.Proofs
open Go.Shelf
open Go.RowKit in
open Go.RowKit in
def Tryz.lays160_ren:Go.Shelf.Ren:=⟨fun|160=>71|232=>78|231=>77|227=>79|234=>81|233=>80|236=>83|235=>82|228=>86|271=>89|151=>88|197=>87|120=>92|152=>91|260=>90|137=>66|119=>93|224=>75|225=>94|217=>72|266=>84|n=>n,fun|9=>9|4=>4|3=>3|5=>5|117=>134|116=>133|0=>0|124=>137|21=>21|105=>141|46=>118|119=>145|139=>148|138=>147|n=>n,fun|3=>2|4=>3|n=>n⟩
theorem Tryz.lays160:Go.Proofs.Lays.n160 Tryz.prog Tryz.lays160_ren:={
  mixed:=by kernel_rfl
  f119:=Tryz.func93.trans (congrArg some (by kernel_rfl))
  f120:=Tryz.func92.trans (congrArg some (by kernel_rfl))
  f137:=Tryz.func66.trans (congrArg some (by kernel_rfl))
  f151:=Tryz.func88.trans (congrArg some (by kernel_rfl))
  f152:=Tryz.func91.trans (congrArg some (by kernel_rfl))
  f160:=Tryz.func71.trans (congrArg some (by kernel_rfl))
  f197:=Tryz.func87.trans (congrArg some (by kernel_rfl))
  f217:=Tryz.func72.trans (congrArg some (by kernel_rfl))
  f224:=Tryz.func75.trans (congrArg some (by kernel_rfl))
  f225:=Tryz.func94.trans (congrArg some (by kernel_rfl))
  f227:=Tryz.func79.trans (congrArg some (by kernel_rfl))
  f228:=Tryz.func86.trans (congrArg some (by kernel_rfl))
  f231:=Tryz.func77.trans (congrArg some (by kernel_rfl))
  f232:=Tryz.func78.trans (congrArg some (by kernel_rfl))
  f233:=Tryz.func80.trans (congrArg some (by kernel_rfl))
  f234:=Tryz.func81.trans (congrArg some (by kernel_rfl))
  f235:=Tryz.func82.trans (congrArg some (by kernel_rfl))
  f236:=Tryz.func83.trans (congrArg some (by kernel_rfl))
  f260:=Tryz.func90.trans (congrArg some (by kernel_rfl))
  f266:=Tryz.func84.trans (congrArg some (by kernel_rfl))
  f271:=Tryz.func89.trans (congrArg some (by kernel_rfl))
  t0:=Tryz.underlying0
  a0:=Tryz.isAgg0
  z0:=Tryz.sizeOf0
  v0:=Tryz.zeroValue0
  t3:=Tryz.underlying3
  a3:=Tryz.isAgg3
  z3:=Tryz.sizeOf3
  v3:=Tryz.zeroValue3
  t4:=Tryz.underlying4
  a4:=Tryz.isAgg4
  z4:=Tryz.sizeOf4
  v4:=Tryz.zeroValue4
  t5:=Tryz.underlying5
  a5:=Tryz.isAgg5
  z5:=Tryz.sizeOf5
  v5:=Tryz.zeroValue5
  t9:=Tryz.underlying9
  a9:=Tryz.isAgg9
  z9:=Tryz.sizeOf9
  v9:=Tryz.zeroValue9
  t21:=Tryz.underlying21
  a21:=Tryz.isAgg21
  z21:=Tryz.sizeOf21
  v21:=Tryz.zeroValue21
  t46:=Tryz.underlying118
  a46:=Tryz.isAgg118
  z46:=Tryz.sizeOf118
  v46:=Tryz.zeroValue118
  t105:=Tryz.underlying141
  a105:=Tryz.isAgg141
  z105:=Tryz.sizeOf141
  v105:=Tryz.zeroValue141
  t116:=Tryz.underlying133
  a116:=Tryz.isAgg133
  z116:=Tryz.sizeOf133
  t117:=Tryz.underlying134
  a117:=Tryz.isAgg134
  z117:=Tryz.sizeOf134
  v117:=Tryz.zeroValue134
  t119:=Tryz.underlying145
  a119:=Tryz.isAgg145
  z119:=Tryz.sizeOf145
  t124:=Tryz.underlying137
  a124:=Tryz.isAgg137
  z124:=Tryz.sizeOf137
  v124:=Tryz.zeroValue137
  t138:=Tryz.underlying147
  a138:=Tryz.isAgg147
  z138:=Tryz.sizeOf147
  v138:=Tryz.zeroValue147
  t139:=Tryz.underlying148
  a139:=Tryz.isAgg148
  z139:=Tryz.sizeOf148
  v139:=Tryz.zeroValue148
  g3:=by kernel_rfl
  g4:=by kernel_rfl }
open Go.RowKit in
def Tryz.lays137_ren:Go.Shelf.Ren:=⟨fun|137=>66|217=>72|266=>84|n=>n,fun|9=>9|5=>5|3=>3|n=>n,fun|n=>n⟩
theorem Tryz.lays137:Go.Proofs.Lays.n137 Tryz.prog Tryz.lays137_ren:={
  mixed:=by kernel_rfl
  f137:=Tryz.func66.trans (congrArg some (by kernel_rfl))
  f217:=Tryz.func72.trans (congrArg some (by kernel_rfl))
  f266:=Tryz.func84.trans (congrArg some (by kernel_rfl))
  t3:=Tryz.underlying3
  a3:=Tryz.isAgg3
  z3:=Tryz.sizeOf3
  v3:=Tryz.zeroValue3
  t5:=Tryz.underlying5
  a5:=Tryz.isAgg5
  z5:=Tryz.sizeOf5
  v5:=Tryz.zeroValue5
  t9:=Tryz.underlying9
  a9:=Tryz.isAgg9
  z9:=Tryz.sizeOf9
  v9:=Tryz.zeroValue9 }
open Go.RowKit in
theorem Tryz.strings_IndexByte (s:ByteArray) (c:Int) (w:World) :
    Calls Tryz.prog 66 #[.string s,.int .u8 c] w fun e w'=>e=.returned (.int .i64 (Lib.indexByte s.data.toList c.toNat.toUInt8))∧w'=w:=Any.strings_IndexByte Tryz.lays137 s c w
open Go.RowKit Go.Lib in
open Go.RowKit Go.Lib in
open Go.RowKit Go.Lib in
def Tryz.lays185_ren:Go.Shelf.Ren:=⟨fun|185=>70|187=>54|115=>73|253=>74|224=>75|254=>76|255=>64|291=>85|n=>n,fun|37=>24|3=>3|4=>4|0=>0|5=>5|46=>118|9=>9|146=>139|51=>138|n=>n,fun|1=>1|n=>n⟩
theorem Tryz.lays185:Go.Proofs.Lays.n185 Tryz.prog Tryz.lays185_ren:={
  mixed:=by kernel_rfl
  f115:=Tryz.func73.trans (congrArg some (by kernel_rfl))
  f185:=Tryz.func70.trans (congrArg some (by kernel_rfl))
  f187:=Tryz.func54.trans (congrArg some (by kernel_rfl))
  f224:=Tryz.func75.trans (congrArg some (by kernel_rfl))
  f253:=Tryz.func74.trans (congrArg some (by kernel_rfl))
  f254:=Tryz.func76.trans (congrArg some (by kernel_rfl))
  f255:=Tryz.func64.trans (congrArg some (by kernel_rfl))
  f291:=Tryz.func85.trans (congrArg some (by kernel_rfl))
  t0:=Tryz.underlying0
  a0:=Tryz.isAgg0
  z0:=Tryz.sizeOf0
  v0:=Tryz.zeroValue0
  t3:=Tryz.underlying3
  a3:=Tryz.isAgg3
  z3:=Tryz.sizeOf3
  v3:=Tryz.zeroValue3
  t4:=Tryz.underlying4
  a4:=Tryz.isAgg4
  z4:=Tryz.sizeOf4
  v4:=Tryz.zeroValue4
  t5:=Tryz.underlying5
  a5:=Tryz.isAgg5
  z5:=Tryz.sizeOf5
  v5:=Tryz.zeroValue5
  t9:=Tryz.underlying9
  a9:=Tryz.isAgg9
  z9:=Tryz.sizeOf9
  v9:=Tryz.zeroValue9
  t37:=Tryz.underlying24
  a37:=Tryz.isAgg24
  z37:=Tryz.sizeOf24
  v37:=Tryz.zeroValue24
  t46:=Tryz.underlying118
  a46:=Tryz.isAgg118
  z46:=Tryz.sizeOf118
  v46:=Tryz.zeroValue118
  t51:=Tryz.underlying138
  a51:=Tryz.isAgg138
  z51:=Tryz.sizeOf138
  v51:=Tryz.zeroValue138
  t146:=Tryz.underlying139
  a146:=Tryz.isAgg139
  z146:=Tryz.sizeOf139
  v146:=Tryz.zeroValue139
  g1:=by kernel_rfl }
open Go.RowKit Go.Lib in
open Go.RowKit Go.Lib in
open Go.RowKit Go.Lib in
open Go.RowKit Go.Lib in
open Go.RowKit Go.Lib in
def Tryz.lays187_ren:Go.Shelf.Ren:=⟨fun|187=>54|255=>64|n=>n,fun|37=>24|5=>5|3=>3|n=>n,fun|n=>n⟩
theorem Tryz.lays187:Go.Proofs.Lays.n187 Tryz.prog Tryz.lays187_ren:={
  mixed:=by kernel_rfl
  f187:=Tryz.func54.trans (congrArg some (by kernel_rfl))
  f255:=Tryz.func64.trans (congrArg some (by kernel_rfl))
  t3:=Tryz.underlying3
  a3:=Tryz.isAgg3
  z3:=Tryz.sizeOf3
  v3:=Tryz.zeroValue3
  t5:=Tryz.underlying5
  a5:=Tryz.isAgg5
  z5:=Tryz.sizeOf5
  v5:=Tryz.zeroValue5
  t37:=Tryz.underlying24
  a37:=Tryz.isAgg24
  z37:=Tryz.sizeOf24
  v37:=Tryz.zeroValue24 }
open Go.RowKit Go.Lib in
theorem Tryz.bytes_IndexByte_at (a:Addr) (n c:Nat) (xs:List Int) (cv:Int) (w:World) (hx:xs.length=n) (hc:∀ i,i<n→w.cell? (a.add i)=some (.int .u8 (xs.getD i 0))) :
    Calls Tryz.prog 54 #[.slice (some a) n c,.int .u8 cv] w fun e w'=>e=.returned (.int .i64 (Lib.indexByte (Lib.bytesOf xs) cv.toNat.toUInt8))∧w'=w:=Any.bytes_IndexByte_at Tryz.lays187 a n c xs cv w hx hc
open Go.RowKit Go.Lib in
theorem Tryz.bytes_Index_one_at (a:Addr) (n c b2 o2 d:Nat) (xs:List Int) (cv:Int) (w:World) (hx:xs.length=n) (hc:∀ i,i<n→w.cell? (a.add i)=some (.int .u8 (xs.getD i 0))) (hc2:w.cell? ⟨b2,o2,none⟩=some (.int .u8 cv)) :
    Calls Tryz.prog 70 #[.slice (some a) n c,.slice (some ⟨b2,o2,none⟩) 1 d] w fun e w'=>e=.returned (.int .i64 (Lib.indexByte (Lib.bytesOf xs) cv.toNat.toUInt8))∧w'=w:=Any.bytes_Index_one_at Tryz.lays185 a n c b2 o2 d xs cv w hx hc hc2
open Go.Proofs Go.RowKit Go.Lib in
open Go.Proofs Go.RowKit Go.Lib in
open Go.RowKit Go.Lib in
open Go.RowKit Go.Lib in
open Go.RowKit Go.Lib in
open Go.Proofs Go.RowKit Go.Lib in
open Go.Proofs Go.RowKit Go.Lib in
open Go.Proofs Go.RowKit Go.Lib in
theorem Tryz.bytes_IndexByte_nil (cv:Int) (w:World) :
    Calls Tryz.prog 54 #[.slice none 0 0,.int .u8 cv] w fun e w'=>e=.returned (.int .i64 (-1))∧w'=w:=Any.bytes_IndexByte_nil Tryz.lays187 cv w
end Go.Proofs
namespace Go.Proofs.YtdfgdpjlbcnkfaaGreatDoor.Q
open Go Go.Proofs.YtdfgdpjlbcnkfaaGreatDoorAbs Go.Proofs Go.RowKit
set_option linter.unusedVariables false
set_option linter.unusedSimpArgs false
def nums8:List Value→Option (List Int)
  | []=>some []
  | .int .u8 n :: r=>(nums8 r).map (n :: ·)
  | _=>none
theorem nums8_get:∀ (cs:List Value) (xs:List Int),nums8 cs=some xs→xs.length=cs.length∧∀ i,i<xs.length→cs[i]? = some (.int .u8 (xs.getD i 0))
  | [],xs,h=>by cases h;exact ⟨rfl,fun i hi=>by simp at hi⟩
  | c :: cs,xs,h=>by
    unfold nums8 at h
    split at h
    · rename_i e;cases e
    · rename_i n r e
      cases e
      obtain ⟨ys,h1,rfl⟩:=Option.map_eq_some_iff.1 h
      obtain ⟨h2,h3⟩:=nums8_get _ ys h1
      refine ⟨by simp [h2],fun i hi=>?_⟩
      cases i with
      | zero=>simp
      | succ i=>simpa using h3 i (by simpa using hi)
    · cases h
def pIdxS (_:Nat) (xs:Array Value) (_:St):Option Value:=match xs with
  | ⟨[.string s,.int .u8 c]⟩=>some (.int .i64 (Lib.indexByte s.data.toList c.toNat.toUInt8))
  | _=>none
theorem still_idxS (k:Nat):Still Tryz.prog 66 (pIdxS k):=⟨fun xs S v h ρ w ys hrel hxs=>by
  unfold pIdxS at h
  split at h
  case h_2=>cases h
  rename_i s c
  cases h
  obtain ⟨y,ys',hy,h4,h5⟩:=hxs.uncons
  obtain ⟨z,zs',rfl,h6,h7⟩:=h5.uncons
  obtain rfl:=h7.of_nil
  obtain rfl:=h4.leaf_eq rfl
  obtain rfl:=h6.leaf_eq rfl
  obtain rfl:ys=#[.string s,.int .u8 c]:=Array.ext' hy
  exact (Tryz.strings_IndexByte s c w).mono fun e w' ⟨h1,h2⟩=>⟨_,h1,VR.scalar rfl,h2 ▸ Below.refl _ _⟩⟩
def pIdxB (_:Nat) (xs:Array Value) (S:St):Option Value:=match xs with
  | ⟨[.slice none 0 0,.int .u8 c]⟩=>some (.int .i64 (-1))
  | ⟨[v,.int .u8 c]⟩=>(cellsAt 1 S v).bind fun cs=>if cs = [] then none else (nums8 cs).map fun ns=>.int .i64 (Lib.indexByte (Lib.bytesOf ns) c.toNat.toUInt8)
  | _=>none
theorem still_idxB (k:Nat):Still Tryz.prog 54 (pIdxB k):=⟨fun xs S v h ρ w ys hrel hxs=>by
  unfold pIdxB at h
  split at h
  · rename_i c
    cases h
    obtain ⟨y,ys',hy,h4,h5⟩:=hxs.uncons
    obtain ⟨z,zs',rfl,h6,h7⟩:=h5.uncons
    obtain rfl:=h7.of_nil
    obtain rfl:=h4.leaf_eq rfl
    obtain rfl:=h6.leaf_eq rfl
    obtain rfl:ys=#[.slice none 0 0,.int .u8 c]:=Array.ext' hy
    exact (Tryz.bytes_IndexByte_nil c w).mono fun e w' ⟨h1,h2⟩=>⟨_,h1,VR.scalar rfl,h2 ▸ Below.refl _ _⟩
  · rename_i x c _
    obtain ⟨cs,h1,h2⟩:=Option.bind_eq_some_iff.1 h
    split at h2
    · cases h2
    rename_i hne
    obtain ⟨ns,h3,rfl⟩:=Option.map_eq_some_iff.1 h2
    obtain ⟨g1,g2⟩:=nums8_get cs ns h3
    obtain ⟨y,ys',hy,h4,h5⟩:=hxs.uncons
    obtain ⟨z,zs',rfl,h6,h7⟩:=h5.uncons
    obtain rfl:=h7.of_nil
    obtain rfl:=h6.leaf_eq rfl
    obtain ⟨A,n,C,rfl,k1,k2,k3,_⟩:=cellsAt_sim hrel h4 h1
    obtain rfl:ys=#[.slice A n C,.int .u8 c]:=Array.ext' hy
    have hn:n=ns.length:=by omega
    subst hn
    have hpos:0<ns.length:=by
      rcases Nat.eq_zero_or_pos ns.length with e|e
      · exact absurd (List.length_eq_zero_iff.1 (by omega)) hne
      · exact e
    obtain ⟨ad,rfl,_⟩:=k3 0 _ (g2 0 hpos)
    refine (Tryz.bytes_IndexByte_at ad ns.length C ns c w rfl fun i hi=>?_).mono fun e w' ⟨h1,h2⟩=>⟨_,h1,VR.scalar rfl,h2 ▸ Below.refl _ _⟩
    obtain ⟨ad',e1,e2⟩:=k3 i _ (g2 i hi)
    cases e1
    exact e2
  · cases h⟩
def pIdx1 (_:Nat) (xs:Array Value) (S:St):Option Value:=match xs with
  | ⟨[v,sep]⟩=>(cellsAt 1 S v).bind fun cs=>(cellsAt 1 S sep).bind fun ds=>match ds with
    | [.int .u8 c]=>if cs = [] then none else (nums8 cs).map fun ns=>.int .i64 (Lib.indexByte (Lib.bytesOf ns) c.toNat.toUInt8)
    | _=>none
  | _=>none
theorem still_idx1 (k:Nat):Still Tryz.prog 70 (pIdx1 k):=⟨fun xs S v h ρ w ys hrel hxs=>by
  unfold pIdx1 at h
  split at h
  case h_2=>cases h
  rename_i x sep
  obtain ⟨cs,h1,h2⟩:=Option.bind_eq_some_iff.1 h
  obtain ⟨ds,h3,h4⟩:=Option.bind_eq_some_iff.1 h2
  split at h4
  case h_2=>cases h4
  rename_i c
  split at h4
  · cases h4
  rename_i hne
  obtain ⟨ns,h5,rfl⟩:=Option.map_eq_some_iff.1 h4
  obtain ⟨g1,g2⟩:=nums8_get cs ns h5
  obtain ⟨y,ys',hy,k4,k5⟩:=hxs.uncons
  obtain ⟨z,zs',rfl,k6,k7⟩:=k5.uncons
  obtain rfl:=k7.of_nil
  obtain ⟨A,n,C,rfl,q1,q2,q3,_⟩:=cellsAt_sim hrel k4 h1
  obtain ⟨A2,n2,C2,rfl,r1,r2,r3,_⟩:=cellsAt_sim hrel k6 h3
  obtain rfl:ys=#[.slice A n C,.slice A2 n2 C2]:=Array.ext' hy
  have hn:n=ns.length:=by omega
  subst hn
  have hn2:n2=1:=by simpa using r2.symm
  subst hn2
  have hpos:0<ns.length:=by
    rcases Nat.eq_zero_or_pos ns.length with e|e
    · exact absurd (List.length_eq_zero_iff.1 (by omega)) hne
    · exact e
  obtain ⟨ad,rfl,_⟩:=q3 0 _ (g2 0 hpos)
  obtain ⟨ad2,rfl,hc2⟩:=r3 0 _ rfl
  have hsp:ad2.spot=none:=by
    unfold World.cell? at hc2
    split at hc2
    · rename_i hh
      simp only [Addr.add] at hc2
      cases hs:ad2.spot with
      | none=>rfl
      | some s=>simp [hs] at hc2
    · cases hc2
  obtain ⟨b2,o2,s2⟩:=ad2
  simp only at hsp
  subst hsp
  have hc2':w.cell? ⟨b2,o2,none⟩=some (.int .u8 c):=by simpa [Addr.add] using hc2
  refine (Tryz.bytes_Index_one_at ad ns.length C b2 o2 C2 ns c w rfl (fun i hi=>?_) hc2').mono fun e w' ⟨h1,h2⟩=>⟨_,h1,VR.scalar rfl,h2 ▸ Below.refl _ _⟩
  obtain ⟨ad',e1,e2⟩:=q3 i _ (g2 i hi)
  cases e1
  exact e2⟩
def pTrim (_:Nat) (xs:Array Value) (_:St):Option Value:=match xs with
  | ⟨[.string s,.string c]⟩=>if s.size≤9223372036854775807∧c=⟨#[32,9]⟩ then some (.string (trimB s)) else none
  | _=>none
theorem still_trim (k:Nat):Still Tryz.prog 71 (pTrim k):=⟨fun xs S v h ρ w ys hrel hxs=>by
  unfold pTrim at h
  split at h
  case h_2=>cases h
  rename_i s c
  split at h
  case isFalse=>cases h
  rename_i hc
  obtain ⟨hs,rfl⟩:=hc
  cases h
  obtain ⟨y,ys',hy,h4,h5⟩:=hxs.uncons
  obtain ⟨z,zs',rfl,h6,h7⟩:=h5.uncons
  obtain rfl:=h7.of_nil
  obtain rfl:=h4.leaf_eq rfl
  obtain rfl:=h6.leaf_eq rfl
  obtain rfl:ys=#[.string s,.string ⟨#[32,9]⟩]:=Array.ext' hy
  refine (Any.strings_Trim_laid Tryz.lays160 (by kernel_rfl) s ⟨#[32,9]⟩ w hs (by decide) (Go.Proofs.ascii_of_all (by decide))).mono ?_
  rintro e w' ⟨rfl,hb⟩
  exact ⟨_,rfl,VR.scalar rfl,hb⟩⟩
def primL:List (FuncId × (Nat→Array Value→St→Option Value)):=[(66,pIdxS),(54,pIdxB),(70,pIdx1),(71,pTrim)]
def prims0:Prims:=stills primL
theorem prims0_sim:PrimSim Tryz.prog prims0:=stills_sim fun x hx k=>by
  simp only [primL,List.mem_cons,List.not_mem_nil,or_false] at hx
  rcases hx with rfl|rfl|rfl|rfl
  · exact still_idxS k
  · exact still_idxB k
  · exact still_idx1 k
  · exact still_trim k
end Go.Proofs.YtdfgdpjlbcnkfaaGreatDoor.Q
namespace Go.Proofs.YtdfgdpjlbcnkfaaGreatDoor.Q
open Go Go.Proofs.YtdfgdpjlbcnkfaaGreatDoorAbs Go.Proofs Go.RowKit
set_option linter.unusedVariables false
set_option linter.unusedSimpArgs false
set_option maxRecDepth 1000000
theorem nglob:Tryz.prog.globals.size=4:=by kernel_rfl
def isTrue (r:Option (Value × St)):Bool:=match r with|some (.bool true,_)=>true|_=>false
end Go.Proofs.YtdfgdpjlbcnkfaaGreatDoor.Q
namespace Go.Proofs.YtdfgdpjlbcnkfaaGreatDoor.Q
open Go Go.Proofs.YtdfgdpjlbcnkfaaGreatDoorAbs Go.Proofs Go.RowKit
set_option linter.unusedVariables false
set_option linter.unusedSimpArgs false
set_option maxRecDepth 1000000
theorem sure_run:isTrue (acall Tryz.prog prims0 60 8 #[] (St.start 4 (fun _=>none)))=true:=by kernel_rfl
end Go.Proofs.YtdfgdpjlbcnkfaaGreatDoor.Q
namespace Go.Proofs.YtdfgdpjlbcnkfaaGreatDoor.Q
open Go Go.Proofs.YtdfgdpjlbcnkfaaGreatDoorAbs Go.Proofs Go.RowKit
set_option linter.unusedVariables false
set_option linter.unusedSimpArgs false
theorem mixed:Tryz.prog.follows .mixedOrders=true:=by kernel_rfl
theorem isTrue_some {r:Option (Value × St)} (h:isTrue r=true):∃ S,r=some (.bool true,S):=by
  unfold isTrue at h
  split at h
  · exact ⟨_,rfl⟩
  · cases h
theorem nums8_u8v:∀ l:List UInt8,nums8 (u8v l)=some (l.map fun b=>(b.toNat:Int))
  | []=>rfl
  | b :: l=>by
    show (nums8 (u8v l)).map _=_
    rw [nums8_u8v l]
    rfl
theorem bytes_u8v (l:List UInt8):Lib.bytesOf (l.map fun b=>(b.toNat:Int))=l:=by
  simp [Lib.bytesOf,Function.comp_def]
theorem u8v_leaf (l:List UInt8):(u8v l).all leaf=true:=by
  rw [List.all_eq_true];intro x hx;simp only [u8v,List.mem_map] at hx;obtain ⟨_,_,rfl⟩:=hx;rfl
end Go.Proofs.YtdfgdpjlbcnkfaaGreatDoor.Q
set_option linter.unusedVariables false
set_option linter.unusedSimpArgs false
namespace Go.Proofs.YtdfgdpjlbcnkfaaGreatDoorW.PrintWords
open Go.RowKit
structure Aside0 (p:Prop):Prop where mk :: (out:p)
structure Drawn0 (w w':World):Prop where mk :: (out:∃ n,w'=w.drewN n)
theorem Drawn0.refl (w:World):Drawn0 w w:=⟨⟨0,rfl⟩⟩
theorem Drawn0.step {w w':World} (h:Drawn0 w w') (n:Nat):Drawn0 w (w'.drewN n):=by
  obtain ⟨m,rfl⟩:=h
  exact ⟨⟨m+n,World.drewN_drewN ..⟩⟩
theorem Drawn0.grown {w w':World} (h:Drawn0 w w'):Grown w w':=by
  obtain ⟨n,rfl⟩:=h
  induction n with
  | zero=>exact Grown.refl _
  | succ n ih=>rw [← World.drew_drewN];exact Grown.drew ih
theorem Drawn0.below {w w':World} (h:Drawn0 w w'):Below w.heap.size w w':=by
  obtain ⟨n,rfl⟩:=h
  induction n with
  | zero=>exact Below.refl _ _
  | succ n ih=>rw [← World.drew_drewN];exact ih.drew
def rd (xs:List Int) (i:Int):Int:=xs.getD i.toNat 0
def bt (s:ByteArray) (i:Int):Int:=if h:i.toNat<s.size then ((s[i.toNat]'h).toNat:Int) else 0
theorem below_alloc {w W:World} (h:Below w.heap.size w W) (o:Obj):Below w.heap.size w (W.alloc o):=h.alloc h.size o
theorem pw_below_drewN {B:Nat} {w W:World} (h:Below B w W) (n:Nat):Below B w (W.drewN n):=⟨h.os,h.tape,h.output,h.size,h.block⟩
theorem grown_of_below {w w1:World} (h:Below w.heap.size w w1) (row:Option Nat):w.grownBy w1 row:=⟨h.os,h.tape,h.output,h.size,fun i hi _=>h.block i hi⟩
theorem pw_cell_below {w w1:World} (h:Below w.heap.size w w1) {a:Addr} {v:Value} (hc:w.cell? a=some v):w1.cell? a=some v:=(h.cell (World.block_lt_of_cell? w a hc)).trans hc
def ReadsInt (w:World) (k:IntKind) (A:Option Addr) (n:Nat) (xs:List Int):Prop :=
  xs.length=n∧n≤9223372036854775807∧(0<n→∃ ad,A=some ad∧∀ j,j<n→w.cell? (ad.add j)=some (.int k (xs.getD j 0)))
theorem ReadsInt.below {w w1:World} {k:IntKind} {A:Option Addr} {n:Nat} {xs:List Int} (h:ReadsInt w k A n xs) (hb:Below w.heap.size w w1):ReadsInt w1 k A n xs :=
  ⟨h.1,h.2.1,fun hn=>by
    obtain ⟨ad,e,hc⟩:=h.2.2 hn
    exact ⟨ad,e,fun j hj=>pw_cell_below hb (hc j hj)⟩⟩
theorem own_nil (W:World) (base:Nat) (e:TypeId) (size:Nat):W.ownsRow base e size (.slice none 0 0) 0 []:=⟨by simp,.inl ⟨rfl,rfl⟩⟩
theorem own_base {w:World} {base:Nat} {e:TypeId} {size n:Nat} {v:Value} {xs:List Value} (h:w.ownsRow base e size v n xs) (k:Nat) (hk:v.ownBlock=some k):base≤k:=by
  rcases h.2 with ⟨rfl,_⟩|⟨g,cap,cur,rfl,hb,_⟩
  · simp [Value.ownBlock] at hk
  · have:g=k:=by simpa [Value.ownBlock] using hk
    omega
theorem own_lt {w:World} {base:Nat} {e:TypeId} {size n:Nat} {v:Value} {xs:List Value} (h:w.ownsRow base e size v n xs) (k:Nat) (hk:v.ownBlock=some k):k<w.heap.size:=by
  rcases h.2 with ⟨rfl,_⟩|⟨g,cap,cur,rfl,hb,hh,_⟩
  · simp [Value.ownBlock] at hk
  · have:g=k:=by simpa [Value.ownBlock] using hk
    subst this
    exact (Array.getElem?_eq_some_iff.1 hh).1
theorem pw_own_below {w w1:World} {base:Nat} {e:TypeId} {size n:Nat} {v:Value} {xs:List Value} (h:w.ownsRow base e size v n xs) (hb:Below w.heap.size w w1):w1.ownsRow base e size v n xs :=
  h.kept (grown_of_below hb none) (by cases v.ownBlock <;> simp)
theorem own_slice {w:World} {base n:Nat} {e:TypeId} {size:Nat} {v:Value} {xs:List Value} (h:w.ownsRow base e size v n xs):∃ A c,v=.slice A n c:=by
  rcases h.2 with ⟨rfl,rfl⟩|⟨g,cap,cur,rfl,_⟩
  · exact ⟨none,0,rfl⟩
  · exact ⟨_,cap,rfl⟩
section
variable {P:Program} {ops:Array Oper} {rest:List Oper} {o:Oper} {a:Act} {Q:Exit→Act→World→Prop}
end
section
variable {P:Program}
end
section
variable {P:Program} {ops:Array Oper} {rest:List Oper} {o:Oper} {a:Act} {Q:Exit→Act→World→Prop}
end
def bytesOf (s:ByteArray):List Int:=s.data.toList.map fun b=>(b.toNat:Int)
def LeO {α:Type} (a b:Option α):Prop:=∀ r,a=some r→b=some r
theorem LeO.refl {α:Type} (a:Option α):LeO a a:=fun _ h=>h
theorem LeO.none {α:Type} (b:Option α):LeO Option.none b:=fun _ h=>by cases h
theorem LeO.trans {α:Type} {a b c:Option α} (h:LeO a b) (k:LeO b c):LeO a c:=fun r hr=>k r (h r hr)
theorem LeO.bind {α β:Type} {a a':Option α} {f f':α→Option β} (h:LeO a a') (k:∀ x,LeO (f x) (f' x)):LeO (a.bind f) (a'.bind f'):=by
  intro r hr
  obtain ⟨x,hx,hf⟩:=Option.bind_eq_some_iff.1 hr
  exact Option.bind_eq_some_iff.2 ⟨x,h x hx,k x r hf⟩
theorem LeO.map {α β:Type} {a a':Option α} (f:α→β) (h:LeO a a'):LeO (a.map f) (a'.map f):=by
  intro r hr
  obtain ⟨x,hx,hf⟩:=Option.map_eq_some_iff.1 hr
  exact Option.map_eq_some_iff.2 ⟨x,h x hx,hf⟩
theorem more_rounds {α:Type} {g:Nat→Option α} (h:∀ k,LeO (g k) (g (k+1))) (k:Nat):∀ j,LeO (g k) (g (k+j))
  | 0=>LeO.refl _
  | j+1=>(more_rounds h k j).trans (h (k+j))
theorem at_rounds {α:Type} {g:Nat→Option α} (h:∀ k,LeO (g k) (g (k+1))) {k k':Nat} (hk:k≤k') {r:α} (hr:g k=some r):g k'=some r:=by
  have:=more_rounds h k (k' - k) r hr
  rwa [Nat.add_sub_cancel' hk] at this
def Reps {α:Type} (R:α→List Value→Prop) (size:Nat) (ps:List α) (cs:List Value):Prop :=
  cs.length=ps.length * size∧∀ j p,ps[j]? = some p→R p ((cs.drop (j * size)).take size)
theorem Reps.none {α:Type} (R:α→List Value→Prop) (size:Nat):Reps R size [] []:=⟨by simp,fun j p h=>by simp at h⟩
theorem Reps.snoc {α:Type} {R:α→List Value→Prop} {size:Nat} {ps:List α} {cs c:List Value} {p:α} (h:Reps R size ps cs) (hp:R p c) (hc:c.length=size):Reps R size (ps ++ [p]) (cs++c):=by
  refine ⟨by rw [List.length_append,h.1,hc,List.length_append,List.length_singleton,Nat.add_mul,Nat.one_mul],fun j q hq=>?_⟩
  rcases Nat.lt_or_ge j ps.length with hj|hj
  · rw [List.getElem?_append_left hj] at hq
    have h1:j * size+size≤cs.length:=by rw [h.1,← Nat.succ_mul];exact Nat.mul_le_mul_right _ hj
    have h2:=h.2 j q hq
    rw [List.drop_append_of_le_length (by omega),List.take_append_of_le_length (by rw [List.length_drop];omega)]
    exact h2
  · have hj':j=ps.length:=by
      have:=(List.getElem?_eq_some_iff.1 hq).1
      rw [List.length_append,List.length_singleton] at this
      omega
    subst hj'
    have hq':p=q:=by simpa using hq
    subst hq'
    rw [← h.1,List.drop_left,← hc,List.take_length]
    exact hp
theorem Reps.imp_ {α:Type} {R R':α→List Value→Prop} {size:Nat} {ps:List α} {cs:List Value} (h:Reps R size ps cs) (hR:∀ p c,R p c→R' p c):Reps R' size ps cs:=⟨h.1,fun j p hj=>hR _ _ (h.2 j p hj)⟩
def ReadsRow {α:Type} (R:α→List Value→Prop) (size:Nat) (w:World) (A:Option Addr) (n:Nat) (ps:List α):Prop :=
  ps.length=n∧n≤9223372036854775807∧(0<n→∃ ad,A=some ad∧∀ j p,ps[j]? = some p→∃ c,c.length=size∧R p c∧∀ i u,c[i]? = some u→w.cell? (ad.add (j * size+i))=some u)
theorem ReadsRow.imp_ {α:Type} {R R':α→List Value→Prop} {size:Nat} {w w1:World} {A:Option Addr} {n:Nat} {ps:List α} (h:ReadsRow R size w A n ps) (hb:Below w.heap.size w w1) (hR:∀ p c,R p c→R' p c):ReadsRow R' size w1 A n ps :=
  ⟨h.1,h.2.1,fun hn=>by
    obtain ⟨ad,e,hc⟩:=h.2.2 hn
    refine ⟨ad,e,fun j p hj=>?_⟩
    obtain ⟨c,hs,hr,hcell⟩:=hc j p hj
    exact ⟨c,hs,hR _ _ hr,fun i u hu=>pw_cell_below hb (hcell i u hu)⟩⟩
theorem own_reads_row {α:Type} {R:α→List Value→Prop} {w:World} {base n size:Nat} {e:TypeId} {v:Value} {ps:List α} {cs:List Value} (h:w.ownsRow base e size v n cs) (hR:Reps R size ps cs) (hn:ps.length=n) :
    ∃ A c,v=.slice A n c∧ReadsRow R size w A n ps:=by
  rcases Nat.eq_zero_or_pos n with h0|h0
  · rcases h.2 with ⟨rfl,rfl⟩|⟨g,cap,cur,rfl,_⟩
    · exact ⟨none,0,rfl,hn,by omega,fun hp=>absurd hp (by omega)⟩
    · exact ⟨_,cap,rfl,hn,by omega,fun hp=>absurd hp (by omega)⟩
  · obtain ⟨g,cap,rfl,_,_⟩:=h.form h0
    have hm:n≤9223372036854775807:=by
      rcases h.2 with ⟨_,h1⟩|⟨g',cap',cur,he,_,_,h1,h2,_⟩
      · omega
      · simp only [maxLen] at h2
        omega
    refine ⟨_,cap,rfl,hn,hm,fun _=>⟨_,rfl,fun j p hj=>⟨(cs.drop (j * size)).take size,?_,hR.2 j p hj,fun i u hu=>?_⟩⟩⟩
    · have hjl:=(List.getElem?_eq_some_iff.1 hj).1
      have h1:j * size+size≤cs.length:=by rw [hR.1,← Nat.succ_mul];exact Nat.mul_le_mul_right _ hjl
      rw [List.length_take,List.length_drop]
      omega
    · refine h.cells (g:=g) rfl _ u ?_
      rw [List.getElem?_take] at hu
      split at hu
      · rw [List.getElem?_drop] at hu
        exact hu
      · cases hu
section
variable {P:Program} {ops:Array Oper} {rest:List Oper} {o:Oper} {a:Act} {Q:Exit→Act→World→Prop}
theorem print_append_cells {w0 W:World} (base:Nat) (hgd:o.guard=none) (s x:Operand) (t e:TypeId) (z:Value) (size bytes:Nat)
    (ho:o.op=.call { callee:=.builtin .append,args:=#[s,x],argTypes:=#[t,t] })
    (ht:P.underlying t=some (.slice e)) (hinfo:(P.info? e).map (fun i=>(i.zero,i.size,i.bytes))=some (some z,size,bytes)) (hz:z.cells.size=size) (hs0:0<size) (hb0:0<bytes)
    (v:Value) (n:Nat) (xs ys:List Value) (hs:a.eval s=v) (hx:a.eval x=.slice (some ⟨W.heap.size,0,none⟩) 1 1) (hys:ys.length=size) (h1:∀ u ∈ ys,u.oneCell'=true)
    (HO:W.ownsRow base e size v n xs) (HB:Below base w0 W) (hbase:base≤W.heap.size) (hl:(n+1) * bytes≤140737488355328)
    (h:∀ v1 w1,w1.ownsRow base e size v1 (n+1) (xs++ys)→Below base w0 w1→W.grownBy w1 v.ownBlock→(v1.ownBlock=v.ownBlock∨∃ b,v1.ownBlock=some b∧W.heap.size≤b)→wpList P ops Q rest (a.put o.dst v1) w1) :
    wpList P ops Q (o :: rest) a (W.alloc (.cells ys.toArray e)):=by
  obtain ⟨i0,hi,hzz⟩:=Option.map_eq_some_iff.1 hinfo
  simp only [Prod.mk.injEq] at hzz
  obtain ⟨hz0,hz1,hz2⟩:=hzz
  have hlen:n+1≤140737488355328:=Nat.le_trans (Nat.le_mul_of_pos_right _ hb0) hl
  refine wpList_append_own_at (W.alloc (.cells ys.toArray e)) hgd s x t ho base e i0 z size bytes ht hi hz0 hz1 hz2 hz hs0 v n xs hs (HO.alloc _) ⟨W.heap.size,0,none⟩ 1 1 ys hx (by rw [hys];simp)
    (by simpa using World.news_of_block (cs:=ys.toArray) (t:=e) (fr:=(0,0)) (heap_alloc_new W (.cells ys.toArray e))) h1 (by simp only [maxLen];omega) hl (by simp;omega) ?_
  intro v1 w1 hown hg _ hat
  refine h v1 w1 hown ((HB.alloc hbase _).grown hg (by simp;omega) (own_base HO)) (World.grownBy.trans (World.grownBy_alloc W _ _) hg) ?_
  rcases hat with hat|hat
  · exact .inl hat
  · exact .inr ⟨_,hat,by simp⟩
end
theorem own_ne {w:World} {base:Nat} {e t:TypeId} {size n g:Nat} {v:Value} {xs:List Value} {cs:Array Value} (h:w.ownsRow base e size v n xs) (hg:w.heap[g]? = some (.cells cs t (0,0))) (hne:e ≠ t):some g ≠ v.ownBlock:=by
  rcases h.2 with ⟨rfl,_⟩|⟨g',cap,cur,rfl,_,hh,_⟩
  · simp [Value.ownBlock]
  · intro he
    have:g=g':=by simpa [Value.ownBlock] using he
    subst this
    rw [hg] at hh
    injection hh with hh
    injection hh with _ ht
    exact hne ht.symm
theorem blk_set {w:World} {g:Nat} {t:TypeId} {cs:Array Value} (h:w.heap[g]? = some (.cells cs t (0,0))) (i:Nat) (u:Value):(w.setCell ⟨g,i,none⟩ u).heap[g]? = some (.cells (cs.setIfInBounds i u) t (0,0)):=by
  simp [World.setCell,Array.getElem?_modify,h]
theorem blk_lt {w:World} {g:Nat} {o:Obj} (h:w.heap[g]? = some o):g<w.heap.size:=(Array.getElem?_eq_some_iff.1 h).1
theorem blk_cell {w:World} {g:Nat} {t:TypeId} {cs:Array Value} (h:w.heap[g]? = some (.cells cs t (0,0))) (i:Nat):w.cell? ⟨g,i,none⟩=cs[i]?:=cell_of_row w g i cs t (0,0) h
theorem blk_frozen {w:World} {g:Nat} {t:TypeId} {cs:Array Value} (h:w.heap[g]? = some (.cells cs t (0,0))) (i:Nat):w.frozen? ⟨g,i,none⟩=false:=by simp [World.frozen?,h]
def KeepBut (w w':World) (g:Nat) (row:Option Nat):Prop:=w.heap.size≤w'.heap.size∧∀ i,i<w.heap.size→i ≠ g→some i ≠ row→w'.heap[i]? = w.heap[i]?
theorem KeepBut.refl (w:World) (g:Nat) (row:Option Nat):KeepBut w w g row:=⟨Nat.le_refl _,fun _ _ _ _=>rfl⟩
theorem KeepBut.of_below {w w1:World} (h:Below w.heap.size w w1) (g:Nat) (row:Option Nat):KeepBut w w1 g row:=⟨h.size,fun i hi _ _=>h.block i hi⟩
theorem KeepBut.trans {w w1 w2:World} {g:Nat} {row row1:Option Nat} (h:KeepBut w w1 g row) (k:KeepBut w1 w2 g row1) (hr:row1=row∨∃ b,row1=some b∧w.heap.size≤b):KeepBut w w2 g row :=
  ⟨Nat.le_trans h.1 k.1,fun i hi hg hn=>by
    refine (k.2 i (Nat.lt_of_lt_of_le hi h.1) hg ?_).trans (h.2 i hi hg hn)
    rcases hr with rfl|⟨b,rfl,hb⟩
    · exact hn
    · intro e
      injection e with e
      omega⟩
theorem KeepBut.blk {w w1:World} {g g':Nat} {row:Option Nat} {o:Obj} (h:KeepBut w w1 g row) (hb:w.heap[g']? = some o) (hg:g' ≠ g) (hr:some g' ≠ row):w1.heap[g']? = some o:=(h.2 g' (blk_lt hb) hg hr).trans hb
theorem KeepBut.own {w w1:World} {g:Nat} {row:Option Nat} {base:Nat} {e:TypeId} {size n:Nat} {v:Value} {xs:List Value} (h:KeepBut w w1 g row) (ho:w.ownsRow base e size v n xs) (hg:v.ownBlock ≠ some g) (hr:v.ownBlock=none∨v.ownBlock ≠ row):w1.ownsRow base e size v n xs:=by
  obtain ⟨h1,h2⟩:=ho
  refine ⟨h1,?_⟩
  rcases h2 with h2|⟨b,cap,cur,rfl,hb,hh,r⟩
  · exact .inl h2
  · refine .inr ⟨b,cap,cur,rfl,hb,h.blk hh ?_ ?_,r⟩
    · intro e
      exact hg (by rw [← e];rfl)
    · rcases hr with hr|hr
      · simp [Value.ownBlock] at hr
      · exact hr
def Ev {α:Type} (g:Nat→Option α) (r:α):Prop:=∃ K,∀ k,K≤k→g k=some r
theorem Ev.of {α:Type} {g:Nat→Option α} {r:α} (hg:∀ k,LeO (g k) (g (k+1))) {k:Nat} (h:g k=some r):Ev g r:=⟨k,fun _ hk=>at_rounds hg hk h⟩
theorem Ev.bind {α β:Type} {g:Nat→Option α} {f:Nat→α→Option β} {a:α} {r:β} (h:Ev g a) (k:Ev (fun n=>f n a) r):Ev (fun n=>(g n).bind (f n)) r:=by
  obtain ⟨K,h⟩:=h
  obtain ⟨K',k⟩:=k
  refine ⟨max K K',fun n hn=>?_⟩
  have h1:=h n (by omega)
  have h2:=k n (by omega)
  simp only [h1,Option.bind_some]
  exact h2
theorem Ev.step {α:Type} {g f:Nat→Option α} {r:α} (h:∀ k,g (k+1)=f k) (k:Ev f r):Ev g r:=by
  obtain ⟨K,k⟩:=k
  refine ⟨K+1,fun n hn=>?_⟩
  obtain ⟨m,rfl⟩:∃ m,n=m+1:=⟨n - 1,by omega⟩
  rw [h]
  exact k m (by omega)
theorem Ev.congr {α:Type} {g f:Nat→Option α} {r:α} (h:∀ k,g k=f k) (k:Ev f r):Ev g r:=by
  obtain ⟨K,k⟩:=k
  exact ⟨K,fun n hn=>(h n).trans (k n hn)⟩
section
variable {P:Program} {ops:Array Oper} {o:Oper} {a:Act} {Q:Exit→Act→World→Prop} {K:Act→World→Prop}
end
theorem own_weaken {w:World} {base base':Nat} {e:TypeId} {size n:Nat} {v:Value} {xs:List Value} (h:w.ownsRow base e size v n xs) (hb:base'≤base):w.ownsRow base' e size v n xs:=by
  obtain ⟨h1,h2⟩:=h
  refine ⟨h1,?_⟩
  rcases h2 with h2|⟨g,cap,cur,rfl,hg,r⟩
  · exact .inl h2
  · exact .inr ⟨g,cap,cur,rfl,Nat.le_trans hb hg,r⟩
section
variable {α:Type} {enc:α→Value} {d:α}
def ReadsOf (enc:α→Value) (d:α) (w:World) (A:Option Addr) (n:Nat) (xs:List α):Prop :=
  xs.length=n∧n≤9223372036854775807∧(0<n→∃ ad,A=some ad∧∀ j,j<n→w.cell? (ad.add j)=some (enc (xs.getD j d)))
theorem ReadsOf.below {w w1:World} {A:Option Addr} {n:Nat} {xs:List α} (h:ReadsOf enc d w A n xs) (hb:Below w.heap.size w w1):ReadsOf enc d w1 A n xs :=
  ⟨h.1,h.2.1,fun hn=>by
    obtain ⟨ad,e,hc⟩:=h.2.2 hn
    exact ⟨ad,e,fun j hj=>pw_cell_below hb (hc j hj)⟩⟩
end
section
variable {α:Type} {P:Program} {ops:Array Oper} {rest:List Oper} {o:Oper} {a:Act} {Q:Exit→Act→World→Prop}
end
theorem blk_new (w:World) (o:Obj):(w.alloc o).heap[w.heap.size]? = some o:=heap_alloc_new w o
section
variable {P:Program}
end
theorem own_le {w:World} {base n m c size:Nat} {e:TypeId} {A:Option Addr} {xs:List Value} (h:w.ownsRow base e size (.slice A m c) n xs):m≤c:=by
  rcases h.2 with ⟨he,_⟩|⟨g,cap,cur,he,_,_,hnc,_⟩
  · injection he with _ h2 h3
    omega
  · injection he with _ h2 h3
    omega
def OwnRow {α:Type} (R:α→List Value→Prop) (e:TypeId) (size:Nat) (w:World) (base:Nat) (v:Value) (ps:List α):Prop :=
  ∃ inner,w.ownsRow base e size v ps.length inner∧Reps R size ps inner
section
variable {α:Type} {R R':α→List Value→Prop} {e:TypeId} {size:Nat} {w w1:World} {base:Nat} {v:Value} {ps:List α}
theorem OwnRow.none_ (R:α→List Value→Prop) (e:TypeId) (size:Nat) (w:World) (base:Nat):OwnRow R e size w base (.slice none 0 0) []:=⟨[],own_nil _ _ _ _,Reps.none _ _⟩
theorem OwnRow.imp_ (h:OwnRow R e size w base v ps) (hR:∀ p c,R p c→R' p c):OwnRow R' e size w base v ps:=by
  obtain ⟨inner,ho,hr⟩:=h
  exact ⟨inner,ho,hr.imp_ hR⟩
theorem OwnRow.below (h:OwnRow R e size w base v ps) (hb:Below w.heap.size w w1):OwnRow R e size w1 base v ps:=by
  obtain ⟨inner,ho,hr⟩:=h
  exact ⟨inner,pw_own_below ho hb,hr⟩
theorem OwnRow.keep (h:OwnRow R e size w base v ps) {g:Nat} {t:TypeId} {cells:Array Value} (hb:w.heap[g]? = some (.cells cells t (0,0))) (ht:e ≠ t) (hk:KeepBut w w1 g none):OwnRow R e size w1 base v ps:=by
  obtain ⟨inner,ho,hr⟩:=h
  exact ⟨inner,hk.own ho (Ne.symm (own_ne ho hb ht)) (by cases v.ownBlock <;> simp),hr⟩
theorem OwnRow.reads (h:OwnRow R e size w base v ps):∃ A c,v=.slice A ps.length c∧ps.length≤c∧ReadsRow R size w A ps.length ps:=by
  obtain ⟨inner,ho,hr⟩:=h
  obtain ⟨A,c,rfl,hrow⟩:=own_reads_row ho hr rfl
  exact ⟨A,c,rfl,own_le ho,hrow⟩
theorem OwnRow.lit (W:World) (base:Nat) {inner:List Value} (hr:Reps R size ps inner) (hb:base≤W.heap.size) (hm:ps.length≤9223372036854775807) :
    OwnRow R e size (W.alloc (.cells inner.toArray e)) base (.slice (some ⟨W.heap.size,0,none⟩) ps.length ps.length) ps:=by
  have h:=World.ownsRow_lit (base:=base) (e:=e) (size:=size) W inner.toArray ps.length hb (by simpa [maxLen] using hm) (by simpa using hr.1)
  exact ⟨inner,by simpa using h,hr⟩
end
section
variable {P:Program} {ops:Array Oper} {rest:List Oper} {o:Oper} {a:Act} {Q:Exit→Act→World→Prop} {α:Type} {R:α→List Value→Prop}
theorem OwnRow.append {w0 W:World} (base:Nat) (hgd:o.guard=none) (s x:Operand) (t e:TypeId) (z:Value) (size bytes:Nat)
    (ho:o.op=.call { callee:=.builtin .append,args:=#[s,x],argTypes:=#[t,t] })
    (ht:P.underlying t=some (.slice e)) (hinfo:(P.info? e).map (fun i=>(i.zero,i.size,i.bytes))=some (some z,size,bytes)) (hz:z.cells.size=size) (hs0:0<size) (hb0:0<bytes)
    (v:Value) (ps:List α) (p:α) (cs:List Value) (hs:a.eval s=v) (hx:a.eval x=.slice (some ⟨W.heap.size,0,none⟩) 1 1) (hp:R p cs) (hcs:cs.length=size) (h1:∀ u ∈ cs,u.oneCell'=true)
    (HO:OwnRow R e size W base v ps) (HB:Below base w0 W) (hbase:base≤W.heap.size) (hl:(ps.length+1) * bytes≤140737488355328)
    (h:∀ v1 w1,OwnRow R e size w1 base v1 (ps ++ [p])→Below base w0 w1→W.grownBy w1 v.ownBlock→(v1.ownBlock=v.ownBlock∨∃ b,v1.ownBlock=some b∧W.heap.size≤b)→wpList P ops Q rest (a.put o.dst v1) w1) :
    wpList P ops Q (o :: rest) a (W.alloc (.cells cs.toArray e)):=by
  obtain ⟨inner,hown,hr⟩:=HO
  refine print_append_cells base hgd s x t e z size bytes ho ht hinfo hz hs0 hb0 v ps.length inner cs hs hx hcs h1 hown HB hbase hl ?_
  intro v1 w1 hown1 hb1 hg1 hat1
  exact h v1 w1 ⟨inner++cs,by rw [List.length_append,List.length_singleton];exact hown1,hr.snoc hp hcs⟩ hb1 hg1 hat1
end
section
variable {P:Program} {ops:Array Oper} {o:Oper} {a:Act} {Q:Exit→Act→World→Prop} {K:Act→World→Prop} {α:Type} {R:α→List Value→Prop}
end
section
variable {α:Type} {P:Program}
theorem ReadsOf.len_ {enc:α→Value} {d:α} {w:World} {A:Option Addr} {n:Nat} {xs:List α} (h:ReadsOf enc d w A n xs):ReadsOf enc d w A xs.length xs:=by rw [h.1];exact h
end
section
variable {P:Program} {ops:Array Oper} {rest:List Oper} {o:Oper} {a:Act} {Q:Exit→Act→World→Prop}
end
structure Kd (α:Type) where
  sz:Nat
  E:List Nat
  K:World→α→List Value→Prop
  M:World→Nat→(Nat→Prop)→α→List Value→Prop
  K_len:∀ {w x cs},K w x cs→cs.length=sz
  K_one:∀ {w x cs},K w x cs→∀ u ∈ cs,u.oneCell'=true
  K_below:∀ {w w1:World} {x cs},Below w.heap.size w w1→K w x cs→K w1 x cs
  K_of_M:∀ {w base ok x cs},M w base ok x cs→K w x cs
  M_mono:∀ {w base ok ok' x cs},(∀ k,ok k→ok' k)→M w base ok x cs→M w base ok' x cs
  M_bound:∀ {w:World} {base ok x cs},M w base ok x cs→M w base (fun k=>ok k∧base≤k∧k<w.heap.size∧∃ q,q ∈ E∧∃ cells,w.heap[k]? = some (.cells cells q (0,0))) x cs
  M_move:∀ {w w1:World} {base ok x cs},(∀ k,ok k→w1.heap[k]? = w.heap[k]?)→M w base ok x cs→M w1 base ok x cs
  M_lower:∀ {w base base' ok x cs},base'≤base→M w base ok x cs→M w base' ok x cs
theorem own_move {w w1:World} {base:Nat} {e:TypeId} {size n:Nat} {v:Value} {xs:List Value} (h:w.ownsRow base e size v n xs) (hm:∀ k,v.ownBlock=some k→w1.heap[k]? = w.heap[k]?):w1.ownsRow base e size v n xs:=by
  obtain ⟨h1,h2⟩:=h
  refine ⟨h1,?_⟩
  rcases h2 with h2|⟨g,cap,cur,rfl,hg,hh,r⟩
  · exact .inl h2
  · exact .inr ⟨g,cap,cur,rfl,hg,(hm g (by simp [Value.ownBlock])).trans hh,r⟩
theorem own_typed {w:World} {base:Nat} {e:TypeId} {size n:Nat} {v:Value} {xs:List Value} (h:w.ownsRow base e size v n xs) (k:Nat) (hk:v.ownBlock=some k):∃ cells,w.heap[k]? = some (.cells cells e (0,0)):=by
  rcases h.2 with ⟨rfl,_⟩|⟨g,cap,cur,rfl,hg,hh,r⟩
  · simp [Value.ownBlock] at hk
  · have:g=k:=by simpa [Value.ownBlock] using hk
    subst this
    exact ⟨cur,hh⟩
namespace Kd
def C {α:Type} (d:Kd α) (w:World) (A:Option Addr) (n:Nat) (xs:List α):Prop:=ReadsRow (d.K w) d.sz w A n xs
def R {α:Type} (d:Kd α) (e:Nat) (w:World) (base:Nat) (ok:Nat→Prop) (v:Value) (xs:List α):Prop :=
  (∀ k,v.ownBlock=some k→ok k)∧OwnRow (d.M w base (fun k=>ok k∧some k ≠ v.ownBlock)) e d.sz w base v xs
section
variable {α:Type} {d:Kd α} {e:Nat} {w w1:World} {base:Nat} {ok ok':Nat→Prop} {v:Value} {xs:List α}
theorem C_below {A:Option Addr} {n:Nat} (h:d.C w A n xs) (hb:Below w.heap.size w w1):d.C w1 A n xs:=ReadsRow.imp_ h hb (fun _ _ hp=>d.K_below hb hp)
theorem R_mono (h:d.R e w base ok v xs) (hok:∀ k,ok k→ok' k):d.R e w base ok' v xs:=⟨fun k hk=>hok k (h.1 k hk),h.2.imp_ (fun _ _ hp=>d.M_mono (fun k hk=>⟨hok k hk.1,hk.2⟩) hp)⟩
theorem R_bound (h:d.R e w base ok v xs):d.R e w base (fun k=>ok k∧base≤k∧k<w.heap.size∧∃ q,q ∈ e :: d.E∧∃ cells,w.heap[k]? = some (.cells cells q (0,0))) v xs:=by
  obtain ⟨h0,inner,ho,hr⟩:=h
  refine ⟨fun k hk=>?_,inner,ho,hr.imp_ (fun _ _ hp=>d.M_mono (fun k hk=>?_) (d.M_bound hp))⟩
  · obtain ⟨cells,hc⟩:=own_typed ho k hk
    exact ⟨h0 k hk,own_base ho k hk,own_lt ho k hk,e,List.mem_cons_self,cells,hc⟩
  · obtain ⟨⟨h1,h2⟩,h3,h4,q,hq,hc⟩:=hk
    exact ⟨⟨h1,h3,h4,q,List.mem_cons_of_mem _ hq,hc⟩,h2⟩
theorem R_move (h:d.R e w base ok v xs) (hm:∀ k,ok k→w1.heap[k]? = w.heap[k]?):d.R e w1 base ok v xs:=by
  obtain ⟨h0,inner,ho,hr⟩:=h
  exact ⟨h0,inner,own_move ho (fun k hk=>hm k (h0 k hk)),hr.imp_ (fun _ _ hp=>d.M_move (fun k hk=>hm k hk.1) hp)⟩
theorem R_lower {base':Nat} (h:d.R e w base ok v xs) (hb:base'≤base):d.R e w base' ok v xs:=by
  obtain ⟨h0,inner,ho,hr⟩:=h
  exact ⟨h0,inner,own_weaken ho hb,hr.imp_ (fun _ _ hp=>d.M_lower hb hp)⟩
theorem R_reads (h:d.R e w base ok v xs):∃ A c,v=.slice A xs.length c∧xs.length≤c∧d.C w A xs.length xs:=by
  obtain ⟨A,c,he,hl,hr⟩:=OwnRow.reads h.2
  exact ⟨A,c,he,hl,hr.imp_ (Below.refl _ _) (fun _ _ hp=>d.K_of_M hp)⟩
end
def scalar {α:Type} (enc:α→Value) (h1:∀ x,(enc x).oneCell'=true):Kd α where
  sz:=1
  E:=[]
  K:=fun _ x cs=>cs = [enc x]
  M:=fun _ _ _ x cs=>cs = [enc x]
  K_len:=fun h=>by rw [h];rfl
  K_one:=fun h u hu=>by
    rw [h] at hu
    rw [List.mem_singleton.1 hu]
    exact h1 _
  K_below:=fun _ h=>h
  K_of_M:=fun h=>h
  M_mono:=fun _ h=>h
  M_bound:=fun h=>h
  M_move:=fun _ h=>h
  M_lower:=fun _ h=>h
def int (k:IntKind):Kd Int:=scalar (Value.int k) (fun _=>rfl)
def bool:Kd Bool:=scalar Value.bool (fun _=>rfl)
def string:Kd ByteArray:=scalar Value.string (fun _=>rfl)
def slice {α:Type} (e:Nat) (d:Kd α):Kd (List α) where
  sz:=1
  E:=e :: d.E
  K:=fun w xs cs=>∃ A c,cs = [.slice A xs.length c]∧xs.length≤c∧d.C w A xs.length xs
  M:=fun w base ok xs cs=>∃ v,cs = [v]∧d.R e w base ok v xs
  K_len:=by
    rintro w x cs ⟨A,c,rfl,_⟩
    rfl
  K_one:=by
    rintro w x cs ⟨A,c,rfl,_⟩ u hu
    rw [List.mem_singleton.1 hu]
    rfl
  K_below:=by
    rintro w w1 x cs hb ⟨A,c,rfl,hl,hr⟩
    exact ⟨A,c,rfl,hl,C_below hr hb⟩
  K_of_M:=by
    rintro w base ok x cs ⟨v,rfl,h⟩
    obtain ⟨A,c,rfl,hl,hr⟩:=R_reads h
    exact ⟨A,c,rfl,hl,hr⟩
  M_mono:=by
    rintro w base ok ok' x cs hok ⟨v,rfl,h⟩
    exact ⟨v,rfl,R_mono h hok⟩
  M_bound:=by
    rintro w base ok x cs ⟨v,rfl,h⟩
    exact ⟨v,rfl,R_bound h⟩
  M_move:=by
    rintro w w1 base ok x cs hm ⟨v,rfl,h⟩
    exact ⟨v,rfl,R_move h hm⟩
  M_lower:=by
    rintro w base base' ok x cs hb ⟨v,rfl,h⟩
    exact ⟨v,rfl,R_lower h hb⟩
def pair {α β:Type} (a:Kd α) (b:Kd β):Kd (α × β) where
  sz:=a.sz+b.sz
  E:=a.E++b.E
  K:=fun w x cs=>∃ c0 c1,cs=c0++c1∧a.K w x.1 c0∧b.K w x.2 c1
  M:=fun w base ok x cs=>∃ c0 c1,cs=c0++c1∧a.M w base ok x.1 c0∧b.M w base ok x.2 c1
  K_len:=by
    rintro w x cs ⟨c0,c1,rfl,h0,h1⟩
    rw [List.length_append,a.K_len h0,b.K_len h1]
  K_one:=by
    rintro w x cs ⟨c0,c1,rfl,h0,h1⟩ u hu
    rcases List.mem_append.1 hu with hu|hu
    · exact a.K_one h0 u hu
    · exact b.K_one h1 u hu
  K_below:=by
    rintro w w1 x cs hb ⟨c0,c1,rfl,h0,h1⟩
    exact ⟨c0,c1,rfl,a.K_below hb h0,b.K_below hb h1⟩
  K_of_M:=by
    rintro w base ok x cs ⟨c0,c1,rfl,h0,h1⟩
    exact ⟨c0,c1,rfl,a.K_of_M h0,b.K_of_M h1⟩
  M_mono:=by
    rintro w base ok ok' x cs hok ⟨c0,c1,rfl,h0,h1⟩
    exact ⟨c0,c1,rfl,a.M_mono hok h0,b.M_mono hok h1⟩
  M_bound:=by
    rintro w base ok x cs ⟨c0,c1,rfl,h0,h1⟩
    refine ⟨c0,c1,rfl,a.M_mono ?_ (a.M_bound h0),b.M_mono ?_ (b.M_bound h1)⟩
    · rintro k ⟨h2,h3,h4,q,hq,hc⟩
      exact ⟨h2,h3,h4,q,List.mem_append_left _ hq,hc⟩
    · rintro k ⟨h2,h3,h4,q,hq,hc⟩
      exact ⟨h2,h3,h4,q,List.mem_append_right _ hq,hc⟩
  M_move:=by
    rintro w w1 base ok x cs hm ⟨c0,c1,rfl,h0,h1⟩
    exact ⟨c0,c1,rfl,a.M_move hm h0,b.M_move hm h1⟩
  M_lower:=by
    rintro w base base' ok x cs hb ⟨c0,c1,rfl,h0,h1⟩
    exact ⟨c0,c1,rfl,a.M_lower hb h0,b.M_lower hb h1⟩
def iso {α β:Type} (d:Kd α) (f:β→α):Kd β where
  sz:=d.sz
  E:=d.E
  K:=fun w x cs=>d.K w (f x) cs
  M:=fun w base ok x cs=>d.M w base ok (f x) cs
  K_len:=d.K_len
  K_one:=d.K_one
  K_below:=d.K_below
  K_of_M:=d.K_of_M
  M_mono:=d.M_mono
  M_bound:=d.M_bound
  M_move:=d.M_move
  M_lower:=d.M_lower
def bot {α:Type} (sz:Nat) (E:List Nat):Kd α where
  sz:=sz
  E:=E
  K:=fun _ _ _=>False
  M:=fun _ _ _ _ _=>False
  K_len:=fun h=>h.elim
  K_one:=fun h=>h.elim
  K_below:=fun _ h=>h
  K_of_M:=fun h=>h
  M_mono:=fun _ h=>h
  M_bound:=fun h=>h
  M_move:=fun _ h=>h
  M_lower:=fun _ h=>h
def upto {α:Type} (F:Kd α→Kd α) (sz:Nat) (E:List Nat):Nat→Kd α
  | 0=>bot sz E
  | n+1=>F (upto F sz E n)
section
variable {P:Program} {ops:Array Oper} {rest:List Oper} {o:Oper} {a:Act} {Q:Exit→Act→World→Prop} {α:Type}
end
section
variable {P:Program} {ops:Array Oper} {o:Oper} {a:Act} {Q:Exit→Act→World→Prop} {Kc:Act→World→Prop} {α:Type}
end
end Kd
namespace Kd
structure Mono {α β:Type} (F:Kd α→Kd β):Prop where
  sz:∀ d d':Kd α,d.sz=d'.sz→(F d).sz=(F d').sz
  K:∀ d d':Kd α,d.sz=d'.sz→(∀ w x cs,d.K w x cs→d'.K w x cs)→∀ w x cs,(F d).K w x cs→(F d').K w x cs
  M:∀ d d':Kd α,d.sz=d'.sz→(∀ w base ok x cs,d.M w base ok x cs→d'.M w base ok x cs)→∀ w base ok x cs,(F d).M w base ok x cs→(F d').M w base ok x cs
section
variable {α:Type} {F:Kd α→Kd α} {sz:Nat} {E:List Nat} {hs:∀ n,(upto F sz E n).sz=sz} {hE:∀ n q,q ∈ (upto F sz E n).E→q ∈ E}
end
end Kd
namespace Kd
end Kd
namespace Kd
section
variable {α β:Type} {d:Kd α} {d':Kd β} {e e':Nat} {w w1 W:World} {base b b':Nat} {ok ok' okv oku:Nat→Prop} {v u:Value} {xs:List α} {ys:List β}
theorem C_nil (d:Kd α) (w:World):d.C w none ([]:List α).length []:=⟨rfl,by simp,fun h=>absurd h (Nat.lt_irrefl 0)⟩
end
section
variable {w W:World} {A:Option Addr} {n:Nat}
variable {α:Type} {enc:α→Value} {h1:∀ x,(enc x).oneCell'=true} {e base g cap:Nat} {ok:Nat→Prop} {xs:List α}
end
section
variable {P:Program} {ops:Array Oper} {rest:List Oper} {o:Oper} {a:Act} {Q:Exit→Act→World→Prop}
variable {α:Type}
end
end Kd
section
variable {P:Program}
end
def QRow (w:World) (base:Nat) (e:TypeId) (size:Nat) (v:Value) (n:Nat) (xs:List Value):Prop :=
  xs.length=n * size ∧
  ((n=0∧∃ A,v=.slice A 0 0∧∀ a,A=some a→base≤a.block∧∃ cur,w.heap[a.block]? = some (.cells cur e (0,0))) ∨
   ∃ g off cap cur,v=.slice (some ⟨g,off * size,none⟩) n cap∧base≤g∧w.heap[g]? = some (.cells cur e (0,0))∧n≤cap∧off+cap≤maxLen∧cur.size=(off+cap) * size∧(cur.toList.drop (off * size)).take (n * size)=xs)
section
variable {w w1:World} {base n size:Nat} {e:TypeId} {v:Value} {xs:List Value}
end
section
variable {P:Program}
end
namespace Kd
def Q {α:Type} (d:Kd α) (e:Nat) (w:World) (base:Nat) (ok:Nat→Prop) (v:Value) (xs:List α):Prop :=
  (∀ k,v.ownBlock=some k→ok k)∧∃ inner,QRow w base e d.sz v xs.length inner∧Reps (d.M w base (fun k=>ok k∧some k ≠ v.ownBlock)) d.sz xs inner
section
variable {α:Type} {d:Kd α} {e:Nat} {w w1 W:World} {base:Nat} {ok ok':Nat→Prop} {v:Value} {xs:List α}
end
section
variable {P:Program} {ops:Array Oper} {rest:List Oper} {o:Oper} {a:Act} {Q':Exit→Act→World→Prop} {Kc:Act→World→Prop} {α:Type}
end
end Kd
namespace Kd
section
variable {α:Type} {d:Kd α} {e e':Nat} {w w1 W:World} {base:Nat} {ok:Nat→Prop} {u v:Value} {xs:List α}
end
end Kd
namespace Kd
section
variable {α:Type} {d:Kd α} {e base g n cap:Nat} {ok okp:Nat→Prop} {W:World} {xs:List α}
end
end Kd
namespace Kd
section
variable {α:Type} {F:Kd α→Kd α} {sz:Nat} {E:List Nat} {hs:∀ n,(upto F sz E n).sz=sz} {hE:∀ n q,q ∈ (upto F sz E n).E→q ∈ E}
end
end Kd
namespace Kd
section
variable {P:Program} {ops:Array Oper} {rest:List Oper} {o:Oper} {a:Act} {Q:Exit→Act→World→Prop} {α:Type}
end
end Kd
namespace Kd
section
variable {P:Program} {ops:Array Oper} {rest:List Oper} {o:Oper} {a:Act} {Q:Exit→Act→World→Prop} {α:Type}
end
end Kd
theorem add_add (a:Addr) (i j:Nat):(a.add i).add j=a.add (i+j):=by
  unfold Addr.add
  by_cases h1:i=0 <;> by_cases h2:j=0 <;> simp [h1,h2,Nat.add_assoc]
namespace Kd
section
variable {α:Type} {k:Kd α} {w:World} {A:Option Addr} {xs:List α} {m c:Nat}
end
end Kd
section
variable {P:Program}
end
theorem ReadsInt.nil (W:World) (k:IntKind):ReadsInt W k none ([]:List Int).length []:=⟨rfl,by simp,fun h=>absurd h (Nat.lt_irrefl 0)⟩
theorem ReadsInt.drewN {W:World} {k:IntKind} {A:Option Addr} {n:Nat} {xs:List Int} (h:ReadsInt W k A n xs) (m:Nat):ReadsInt (W.drewN m) k A n xs:=h
theorem below_set {w W:World} {g j:Nat} {v:Value} (h:Below w.heap.size w W) (hg:w.heap.size≤g):Below w.heap.size w (W.setCell ⟨g,j,none⟩ v):=h.setCell hg _
theorem keep_cell {w W:World} {g:Nat} (h:KeepBut w W g none) {a:Addr} {v:Value} (hc:w.cell? a=some v) (hne:a.block ≠ g):W.cell? a=some v:=by
  have:=h.2 a.block (World.block_lt_of_cell? w a hc) hne (by simp)
  simpa [World.cell?,this] using hc
theorem add_block (a:Addr) (i:Nat):(a.add i).block=a.block:=by unfold Addr.add;split <;> rfl
theorem ReadsOf.nil {α:Type} (enc:α→Value) (d:α) (W:World):ReadsOf enc d W none ([]:List α).length []:=⟨rfl,by simp,fun h=>absurd h (Nat.lt_irrefl 0)⟩
theorem ReadsOf.drewN {α:Type} {enc:α→Value} {d:α} {W:World} {A:Option Addr} {n:Nat} {xs:List α} (h:ReadsOf enc d W A n xs) (m:Nat):ReadsOf enc d (W.drewN m) A n xs:=h
theorem ReadsInt.keep {w W:World} {k:IntKind} {A:Option Addr} {n g:Nat} {xs:List Int} (h:ReadsInt w k A n xs) (hk:KeepBut w W g none) (hf:∀ ad,A=some ad→0<n→ad.block ≠ g):ReadsInt W k A n xs :=
  ⟨h.1,h.2.1,fun hn=>by
    obtain ⟨ad,e,hc⟩:=h.2.2 hn
    exact ⟨ad,e,fun j hj=>keep_cell hk (hc j hj) (by rw [add_block];exact hf ad e hn)⟩⟩
theorem ReadsOf.keep {α:Type} {enc:α→Value} {d:α} {w W:World} {A:Option Addr} {n g:Nat} {xs:List α} (h:ReadsOf enc d w A n xs) (hk:KeepBut w W g none) (hf:∀ ad,A=some ad→0<n→ad.block ≠ g):ReadsOf enc d W A n xs :=
  ⟨h.1,h.2.1,fun hn=>by
    obtain ⟨ad,e,hc⟩:=h.2.2 hn
    exact ⟨ad,e,fun j hj=>keep_cell hk (hc j hj) (by rw [add_block];exact hf ad e hn)⟩⟩
theorem blk_put {w:World} {g:Nat} {t:TypeId} {cs cs':Array Value} (h:w.heap[g]? = some (.cells cs t (0,0))) (i:Nat) (u:Value) (e:cs.setIfInBounds i u=cs'):(w.setCell ⟨g,i,none⟩ u).heap[g]? = some (.cells cs' t (0,0)):=e ▸ blk_set h i u
theorem below_drew1 {base:Nat} {w W:World} (h:Below base w W):Below base w W.drew:=h.drew
namespace Kd
section
variable {α β:Type} {d:Kd α} {d':Kd β} {e e' base base' n:Nat} {ok ok':Nat→Prop} {w W w1 W1:World} {v u:Value} {xs:List α} {ys:List β} {A:Option Addr} {c:Nat}
end
section
variable {α:Type} {enc:α→Value} {h1:∀ x,(enc x).oneCell'=true} {w W:World} {A:Option Addr} {n g:Nat} {xs:List α}
end
end Kd
namespace Kd
section
variable {α:Type} {d:Kd α} {e base g:Nat} {ok:Nat→Prop} {w w1:World} {v:Value} {xs:List α} {o:Obj}
end
end Kd
section
variable {P:Program} {ops:Array Oper} {rest:List Oper} {o:Oper} {a:Act} {Q:Exit→Act→World→Prop}
end
namespace Kd
section
variable {α:Type} {enc:α→Value} {h1:∀ x,(enc x).oneCell'=true} {e base g n cap:Nat} {ok:Nat→Prop} {W:World} {xs:List α}
end
end Kd
section
variable {P:Program} {ops:Array Oper} {rest:List Oper} {o:Oper} {a:Act} {Q:Exit→Act→World→Prop}
end
namespace Kd
section
variable {α:Type} {enc:α→Value} {h1:∀ x,(enc x).oneCell'=true} {e base g n cap:Nat} {ok:Nat→Prop} {W:World} {xs:List α}
end
end Kd
section
variable {P:Program} {ops:Array Oper} {rest:List Oper} {o:Oper} {a:Act} {Q:Exit→Act→World→Prop} {W:World}
end
section
variable {P:Program} {ops:Array Oper} {o:Oper} {a:Act} {Q:Exit→Act→World→Prop} {Kc:Act→World→Prop}
namespace Kd
variable {α:Type}
end Kd
end
section
variable {P:Program} {tmps:Array Value} {w:World}
end
namespace Kd
section
variable {P:Program} {α:Type}
end
section
variable {P:Program} {ops:Array Oper} {rest:List Oper} {o:Oper} {a:Act} {Q:Exit→Act→World→Prop} {Kc:Act→World→Prop} {α:Type}
end
end Kd
end Go.Proofs.YtdfgdpjlbcnkfaaGreatDoorW.PrintWords
namespace Go.Proofs.YtdfgdpjlbcnkfaaGreatDoor.Q
open Go Go.Proofs.YtdfgdpjlbcnkfaaGreatDoorAbs Go.Proofs Go.RowKit Go.Proofs.YtdfgdpjlbcnkfaaGreatDoorW.PrintWords
set_option linter.unusedVariables false
set_option linter.unusedSimpArgs false
theorem u8_of (l:List Int) (h:∀ x ∈ l,0≤x∧x<256):l.map (Value.int .u8)=u8v (l.map fun x=>x.toNat.toUInt8):=by
  simp only [u8v,List.map_map]
  refine List.map_congr_left fun x hx=>?_
  obtain ⟨h1,h2⟩:=h x hx
  simp only [Function.comp]
  congr 1
  rw [Nat.toUInt8_eq,UInt8.toNat_ofNat']
  omega
theorem row_cells {α:Type} {d:Kd α} {f:α→Value} {w:World} {A:Option Addr} {l:List α} (hsz:d.sz=1) (hK:∀ x c,d.K w x c→c = [f x]) (h:Kd.C d w A l.length l):0<l.length→∃ ad,A=some ad∧∀ (j:Nat) (v:Value),(l.map f)[j]? = some v→w.cell? (ad.add j)=some v:=fun hp=>by
  obtain ⟨ad,e,hc⟩:=h.2.2 hp
  refine ⟨ad,e,fun j v hj=>?_⟩
  rw [List.getElem?_map] at hj
  obtain ⟨x,hx,rfl⟩:=Option.map_eq_some_iff.1 hj
  obtain ⟨c,h1,h2,h3⟩:=hc j x hx
  have:=h3 0 (f x) (by rw [hK x c h2];rfl)
  rwa [hsz,Nat.mul_one,Nat.add_zero] at this
theorem row_leaf {w:World} {ρ:Ren} {k:IntKind} {A:Option Addr} {l:List Int} (h:Kd.C (Kd.int k) w A l.length l) (hp:0<l.length):∃ ad,A=some ad∧∀ (j:Nat) (v:Value),(l.map (Value.int k))[j]? = some v→∃ v',w.cell? (ad.add j)=some v'∧VR ρ v v':=by
  obtain ⟨ad,e,hc⟩:=row_cells (f:=Value.int k) rfl (fun x c hk=>hk) h hp
  refine ⟨ad,e,fun j v hj=>⟨v,hc j v hj,.leaf _ ?_⟩⟩
  rw [List.getElem?_map] at hj
  obtain ⟨x,_,rfl⟩:=Option.map_eq_some_iff.1 hj
  rfl
end Go.Proofs.YtdfgdpjlbcnkfaaGreatDoor.Q
namespace Go.Proofs.YtdfgdpjlbcnkfaaGreatDoorW.PrintLast
section
variable {P:Program} {ops:Array Oper} {Q:Exit→Act→World→Prop} {md:Region.Mode} {S:World→Prop} {ds:List Nat}
def ListedClosed (md:Region.Mode) (ops:Array Oper) (listed:Array Bool):Prop :=
  ∀ j oj,ops[j]? = some oj→listed.getD j false=true→∀ e ∈ oj.after,Region.binds md e=true→listed.getD e.on false=true
theorem ListedClosed.set {listed:Array Bool} {i:Nat} (h:ListedClosed md ops listed) (hi:i ∈ Region.ready md ops listed):ListedClosed md ops (listed.setIfInBounds i true):=by
  obtain ⟨_,oi,hoi,hall⟩:=mem_ready.1 hi
  intro j oj hj hl e he hb
  by_cases hij:i=j
  · subst hij
    have:oj=oi:=Option.some.inj (hj.symm.trans hoi)
    subst this
    exact getD_set_true (hall e he hb)
  · rw [getD_set_ne false hij] at hl
    exact getD_set_true (h j oj hj hl e he hb)
def wpAnyLast (P:Program) (md:Region.Mode) (ops:Array Oper) (Q:Exit→Act→World→Prop) (S:World→Prop) (ds:List Nat):Nat→Array Bool→Act→World→Prop
  | 0,listed,a,w=>Region.ready md ops listed = []∧Q .normal a w
  | fuel+1,listed,a,w =>
    (Region.ready md ops listed = []→Q .normal a w) ∧
    ∀ i ∈ Region.ready md ops listed,wpOp P ops Q i (fun a' w'=>(i ∉ ds→S w→S w')∧wpAnyLast P md ops Q S ds fuel (listed.setIfInBounds i true) a' w') a w
end
section
variable {P:Program} {ops:Array Oper} {Q:Exit→Act→World→Prop} {md:Region.Mode} {S:World→Prop} {ds:List Nat}
def AllReadyL (P:Program) (md:Region.Mode) (ops:Array Oper) (Q:Exit→Act→World→Prop) (S:World→Prop) (ds:List Nat) (fuel:Nat) (listed:Array Bool) (a:Act) (w:World) (rs:List Nat):Prop :=
  ∀ i ∈ rs,wpOp P ops Q i (fun a' w'=>(i ∉ ds→S w→S w')∧wpAnyLast P md ops Q S ds fuel (listed.setIfInBounds i true) a' w') a w
theorem AllReadyL.nil {fuel:Nat} {listed:Array Bool} {a:Act} {w:World}:AllReadyL P md ops Q S ds fuel listed a w []:=fun _ h=>by cases h
theorem AllReadyL.cons {fuel:Nat} {listed:Array Bool} {a:Act} {w:World} {i:Nat} {o:Oper} {rs:List Nat} (ho:ops[i]? = some o) (hd:i ∉ ds)
    (h:∀ K':Act→World→Prop,Shut (∀ a w,S w→(S w→wpAnyLast P md ops Q S ds fuel (listed.setIfInBounds i true) a w)→K' a w)→if Region.wanted o (yielded ops a.tmps)=true then Oper.wp P o a w K' Q else K' (a.put o.dst undef) w)
    (hs:AllReadyL P md ops Q S ds fuel listed a w rs):AllReadyL P md ops Q S ds fuel listed a w (i :: rs):=fun j hj=>by
  rcases List.mem_cons.1 hj with rfl|hj
  · exact wpOp_step ho (fun K' hK=>h K' (fun a w hS hW=>hK a w ⟨fun _ _=>hS,hW hS⟩))
  · exact hs j hj
end
end Go.Proofs.YtdfgdpjlbcnkfaaGreatDoorW.PrintLast
namespace Go.Proofs.YtdfgdpjlbcnkfaaGreatDoorW.PrintWords
open Go.RowKit
namespace Kd
section
variable {α:Type} {d:Kd α} {e base g o n cap:Nat} {ok okp:Nat→Prop} {w W:World} {v:Value} {xs:List α}
end
section
variable {α:Type} {enc:α→Value} {h1:∀ x,(enc x).oneCell'=true} {e base g o n cap:Nat} {ok:Nat→Prop} {W:World} {xs:List α}
end
end Kd
end Go.Proofs.YtdfgdpjlbcnkfaaGreatDoorW.PrintWords
namespace Go.Proofs.YtdfgdpjlbcnkfaaGreatDoorW.PrintWords
open Go.RowKit
namespace Kd
def tag {α:Type} (f:Nat→Nat) (d:Kd α):Kd (α × Nat) where
  sz:=d.sz
  E:=d.E
  K:=fun w x cs=>d.K w x.1 cs
  M:=fun w base ok x cs=>d.M w base (fun k=>ok k∧f k=x.2) x.1 cs
  K_len:=fun h=>d.K_len h
  K_one:=fun h=>d.K_one h
  K_below:=fun hb h=>d.K_below hb h
  K_of_M:=fun h=>d.K_of_M h
  M_mono:=fun hok h=>d.M_mono (fun k hk=>⟨hok k hk.1,hk.2⟩) h
  M_bound:=fun h=>d.M_mono (fun _ hk=>⟨⟨hk.1.1,hk.2⟩,hk.1.2⟩) (d.M_bound h)
  M_move:=fun hm h=>d.M_move (fun k hk=>hm k hk.1) h
  M_lower:=fun hb h=>d.M_lower hb h
def raw (sz:Nat):Kd (List Value) where
  sz:=sz
  E:=[]
  K:=fun _ x cs=>cs=x∧cs.length=sz∧∀ u ∈ cs,u.oneCell'=true
  M:=fun _ _ _ x cs=>cs=x∧cs.length=sz∧∀ u ∈ cs,u.oneCell'=true
  K_len:=fun h=>h.2.1
  K_one:=fun h=>h.2.2
  K_below:=fun _ h=>h
  K_of_M:=fun h=>h
  M_mono:=fun _ h=>h
  M_bound:=fun h=>h
  M_move:=fun _ h=>h
  M_lower:=fun _ h=>h
def S {α:Type} (d:Kd α) (e:Nat) (w:World) (base:Nat) (ok:Nat→Prop) (v:Value) (xs:List α):Prop:=∃ f,(tag f d).R e w base ok v xs.zipIdx
section
variable {α β:Type} {d:Kd α} {d':Kd β} {e e':Nat} {w w1 W:World} {base b:Nat} {ok ok' okv oku:Nat→Prop} {u v:Value} {xs:List α} {ys:List β}
end
section
variable {α β:Type} {d:Kd α} {d':Kd β} {e e' g:Nat} {w w1 W:World} {base b:Nat} {ok ok' okv oku:Nat→Prop} {u v:Value} {xs:List α} {ys:List β}
end
section
open Classical in
variable {P:Program} {ops:Array Oper} {rest:List Oper} {o:Oper} {a:Act} {Q:Exit→Act→World→Prop} {Kc:Act→World→Prop} {α:Type}
end
def gap {α:Type} (f:Nat→Nat) (d:Kd α) (i:Nat) (c:List Value):Kd (α × Nat) where
  sz:=d.sz
  E:=d.E
  K:=fun w x cs=>(x.2=i→cs=c∧cs.length=d.sz∧∀ u ∈ cs,u.oneCell'=true)∧(x.2 ≠ i→d.K w x.1 cs)
  M:=fun w base ok x cs=>(x.2=i→cs=c∧cs.length=d.sz∧∀ u ∈ cs,u.oneCell'=true)∧(x.2 ≠ i→d.M w base (fun k=>ok k∧f k=x.2) x.1 cs)
  K_len:=fun {w x cs} h=>by
    by_cases hx:x.2=i
    · exact (h.1 hx).2.1
    · exact d.K_len (h.2 hx)
  K_one:=fun {w x cs} h=>by
    by_cases hx:x.2=i
    · exact (h.1 hx).2.2
    · exact d.K_one (h.2 hx)
  K_below:=fun hb h=>⟨h.1,fun hx=>d.K_below hb (h.2 hx)⟩
  K_of_M:=fun h=>⟨h.1,fun hx=>d.K_of_M (h.2 hx)⟩
  M_mono:=fun hok h=>⟨h.1,fun hx=>d.M_mono (fun k hk=>⟨hok k hk.1,hk.2⟩) (h.2 hx)⟩
  M_bound:=fun h=>⟨h.1,fun hx=>d.M_mono (fun _ hk=>⟨⟨hk.1.1,hk.2⟩,hk.1.2⟩) (d.M_bound (h.2 hx))⟩
  M_move:=fun hm h=>⟨h.1,fun hx=>d.M_move (fun k hk=>hm k hk.1) (h.2 hx)⟩
  M_lower:=fun hb h=>⟨h.1,fun hx=>d.M_lower hb (h.2 hx)⟩
def H {α:Type} (d:Kd α) (e:Nat) (w:World) (base:Nat) (ok:Nat→Prop) (v:Value) (xs:List α) (i:Int) (oki:Nat→Prop) (c:List Value):Prop :=
  (∀ k,oki k→ok k)∧∃ f,(gap f d i.toNat c).R e w base (fun k=>ok k∧¬ oki k) v xs.zipIdx
section
variable {α β:Type} {d:Kd α} {e e' g n cap:Nat} {w w1 W:World} {base:Nat} {ok ok' oki okp:Nat→Prop} {u v:Value} {xs:List α} {i:Int} {c:List Value}
open Classical in
end
section
variable {P:Program} {ops:Array Oper} {rest:List Oper} {o:Oper} {a:Act} {Q:Exit→Act→World→Prop} {α:Type}
end
end Kd
end Go.Proofs.YtdfgdpjlbcnkfaaGreatDoorW.PrintWords
namespace Go.Proofs.YtdfgdpjlbcnkfaaGreatDoorW.PrintWords
open Go.RowKit
namespace Kd
section
variable {α:Type} {n:Nat} {d:Kd α} {hs:0<d.sz} {w:World} {base:Nat} {ok:Nat→Prop} {xs:List α} {cs:List Value}
end
section
variable {α:Type} {n:Nat} {enc:α→Value} {h1:∀ x,(enc x).oneCell'=true} {hs:0<(scalar enc h1).sz} {w:World} {base:Nat} {ok:Nat→Prop} {xs:List α} {cs:List Value}
end
end Kd
end Go.Proofs.YtdfgdpjlbcnkfaaGreatDoorW.PrintWords
namespace Go.Proofs.YtdfgdpjlbcnkfaaGreatDoorW.PrintWords
open Go.RowKit
section
variable {P:Program}
end
namespace Kd
section
variable {P:Program} {ops:Array Oper} {rest:List Oper} {o:Oper} {a:Act} {Q:Exit→Act→World→Prop} {Kc:Act→World→Prop} {α:Type}
end
section
variable {α:Type} {d:Kd α} {e:Nat} {w:World} {base:Nat} {ok:Nat→Prop} {v:Value} {xs:List α}
end
section
variable {P:Program} {ops:Array Oper} {rest:List Oper} {o:Oper} {a:Act} {Q:Exit→Act→World→Prop} {Kc:Act→World→Prop} {α:Type}
end
end Kd
end Go.Proofs.YtdfgdpjlbcnkfaaGreatDoorW.PrintWords
namespace Go.Proofs.YtdfgdpjlbcnkfaaGreatDoorW.PrintWords
open Go.RowKit
namespace Kd
structure Heap {α:Type} (d:Kd α):Prop where
  K:∀ {w w1:World} {x:α} {cs:List Value},(∀ k,k<w.heap.size→w1.heap[k]? = w.heap[k]?)→d.K w x cs→d.K w1 x cs
theorem cell_heap {w w1:World} (hb:∀ k,k<w.heap.size→w1.heap[k]? = w.heap[k]?) {a:Addr} {v:Value} (h:w.cell? a=some v):w1.cell? a=some v:=by
  have:=hb a.block (World.block_lt_of_cell? w a h)
  simpa [World.cell?,this] using h
theorem Heap.C {α:Type} {d:Kd α} (hd:Heap d) {w w1:World} {A:Option Addr} {n:Nat} {xs:List α} (hb:∀ k,k<w.heap.size→w1.heap[k]? = w.heap[k]?) (h:d.C w A n xs):d.C w1 A n xs :=
  ⟨h.1,h.2.1,fun hn=>by
    obtain ⟨ad,e,hc⟩:=h.2.2 hn
    refine ⟨ad,e,fun j p hj=>?_⟩
    obtain ⟨c,hs,hr,hcell⟩:=hc j p hj
    exact ⟨c,hs,hd.K hb hr,fun i u hu=>cell_heap hb (hcell i u hu)⟩⟩
section
variable {α:Type} {d:Kd α} {e base g n c:Nat} {ok:Nat→Prop} {w w0 W:World} {A:Option Addr} {xs:List α}
end
end Kd
end Go.Proofs.YtdfgdpjlbcnkfaaGreatDoorW.PrintWords
namespace Go.Proofs.YtdfgdpjlbcnkfaaGreatDoorW.PrintWords
open Go.RowKit
def Kept (w W:World) (S:Nat→Prop):Prop:=w.heap.size≤W.heap.size∧∀ i,i<w.heap.size→¬ S i→W.heap[i]? = w.heap[i]?
section
variable {w W W2:World} {S S2 S':Nat→Prop}
theorem Kept.refl (w:World) (S:Nat→Prop):Kept w w S:=⟨Nat.le_refl _,fun _ _ _=>rfl⟩
theorem Kept.of_below (h:Below w.heap.size w W) (S:Nat→Prop):Kept w W S:=⟨h.size,fun i hi _=>h.block i hi⟩
theorem Kept.mono (h:Kept w W S) (hs:∀ k,S k→S' k):Kept w W S':=⟨h.1,fun i hi hn=>h.2 i hi (fun hk=>hn (hs i hk))⟩
theorem Kept.then_ (h:Kept w W S) (k:Kept W W2 S2) (hs:∀ k,S2 k→S k∨w.heap.size≤k):Kept w W2 S :=
  ⟨Nat.le_trans h.1 k.1,fun i hi hn=>(k.2 i (Nat.lt_of_lt_of_le hi h.1) (fun h2=>(hs i h2).elim hn (fun h3=>by omega))).trans (h.2 i hi hn)⟩
theorem Kept.below (h:Kept w W S) (hb:Below W.heap.size W W2):Kept w W2 S:=h.then_ (Kept.of_below hb (fun _=>False)) (fun _ hk=>hk.elim)
theorem Kept.alloc (h:Kept w W S) (o:Obj):Kept w (W.alloc o) S:=h.below (below_alloc (Below.refl _ _) o)
theorem Kept.drew (h:Kept w W S):Kept w W.drew S:=h
theorem Kept.drewN (h:Kept w W S) (m:Nat):Kept w (W.drewN m) S:=h
theorem Kept.setCell (h:Kept w W S) {p:Addr} (hp:S p.block∨w.heap.size≤p.block) (u:Value):Kept w (W.setCell p u) S :=
  h.then_ (S2:=fun k=>k=p.block) ⟨by simp [World.setCell],fun i _ hn=>Below.heap_setCell W p u i hn⟩ (fun k hk=>by rw [hk];exact hp)
theorem Kept.keep {g:Nat} (h:KeepBut w W g none) (k:Kept W W2 S2) (hs:∀ k,S2 k→w.heap.size≤k):KeepBut w W2 g none :=
  ⟨Nat.le_trans h.1 k.1,fun i hi hg hr=>(k.2 i (Nat.lt_of_lt_of_le hi h.1) (fun h2=>by have:=hs i h2;omega)).trans (h.2 i hi hg hr)⟩
end
namespace Kd
section
variable {α:Type} {d:Kd α} {e base n c:Nat} {ok oki S S2:Nat→Prop} {w w0 W W1 W2:World} {v:Value} {A:Option Addr} {xs:List α} {i:Int} {cs:List Value}
end
end Kd
end Go.Proofs.YtdfgdpjlbcnkfaaGreatDoorW.PrintWords
namespace Go.Proofs.YtdfgdpjlbcnkfaaGreatDoorW.PrintWords
open Go.RowKit
def Foot (P:World→Prop) (W:World) (ok:Nat→Prop):Prop:=∀ W':World,(∀ k,ok k→k<W.heap.size→W'.heap[k]? = W.heap[k]?)→P W'
theorem heap_lt {W W1:World} {k:Nat} (h:W1.heap[k]? = W.heap[k]?) (hlt:k<W.heap.size):k<W1.heap.size:=by
  rw [Array.getElem?_eq_getElem hlt] at h
  exact (Array.getElem?_eq_some_iff.1 h).1
namespace Foot
variable {P Q:World→Prop} {W W1:World} {ok ok':Nat→Prop}
theorem mono (h:Foot P W ok) (hok:∀ k,ok k→ok' k):Foot P W ok':=fun W' hW=>h W' (fun k hk hlt=>hW k (hok k hk) hlt)
theorem bound (h:Foot P W ok):Foot P W (fun k=>ok k∧k<W.heap.size):=fun W' hW=>h W' (fun k hk hlt=>hW k ⟨hk,hlt⟩ hlt)
theorem step (h:Foot P W ok) (hm:∀ k,ok k→k<W.heap.size→W1.heap[k]? = W.heap[k]?):Foot P W1 ok:=fun W' hW=>h W' (fun k hk hlt=>(hW k hk (heap_lt (hm k hk hlt) hlt)).trans (hm k hk hlt))
theorem imp (h:Foot P W ok) (hi:∀ W',P W'→Q W'):Foot Q W ok:=fun W' hW=>hi W' (h W' hW)
theorem old (h:Foot P W ok) (hb:Below W.heap.size W W1):Foot P W1 (fun k=>ok k∧k<W.heap.size):=(h.bound).step (fun k _ hlt=>hb.block k hlt)
end Foot
namespace Kd
def F {α:Type} (d:Kd α) (W:World) (ok:Nat→Prop) (A:Option Addr) (n:Nat) (xs:List α):Prop:=Foot (fun W=>d.C W A n xs) W ok
def FK {α:Type} (d:Kd α) (W:World) (ok:Nat→Prop) (x:α) (c:List Value):Prop:=Foot (fun W=>d.K W x c) W ok
section
variable {α β:Type} {d:Kd α} {e base n n' cc g N:Nat} {ok ok' okp S:Nat→Prop} {w w0 w1 W W1:World} {A A':Option Addr} {u v v1:Value} {xs:List α} {xs':List β} {d':Kd β} {x:α} {c:List Value}
end
end Kd
end Go.Proofs.YtdfgdpjlbcnkfaaGreatDoorW.PrintWords
namespace Go.Proofs.YtdfgdpjlbcnkfaaGreatDoorW.PrintWords
open Go.RowKit
namespace Kd
section
variable {α:Type} {d:Kd α} {e base n cc g:Nat} {ok ok' okp S:Nat→Prop} {w w1 W W1:World} {A:Option Addr} {u v v1:Value} {xs:List α} {x:α} {c:List Value}
def N {α:Type} (d:Kd α) (e:Nat) (w:World) (base:Nat) (ok:Nat→Prop) (v:Value) (xs:List α):Prop :=
  (∀ k,v.ownBlock=some k→ok k)∧∃ rows:List (List Value),rows.length=xs.length∧(raw d.sz).R e w base (fun k=>some k=v.ownBlock) v rows∧∀ (j:Nat) (x:α) (c:List Value),xs[j]? = some x→rows[j]? = some c→FK d w (fun k=>ok k∧some k ≠ v.ownBlock) x c
end
end Kd
end Go.Proofs.YtdfgdpjlbcnkfaaGreatDoorW.PrintWords
namespace Go.Proofs.YtdfgdpjlbcnkfaaGreatDoorW.PrintWords
open Go.RowKit
namespace Kd
section
variable {α:Type} {d:Kd α} {e base n cap g:Nat} {ok ok' okp:Nat→Prop} {w w1 W:World} {v v1:Value} {xs ys:List α}
end
section
variable {P:Program} {ops:Array Oper} {rest:List Oper} {o:Oper} {a:Act} {Q:Exit→Act→World→Prop} {Kc:Act→World→Prop} {α:Type}
end
end Kd
end Go.Proofs.YtdfgdpjlbcnkfaaGreatDoorW.PrintWords
namespace Go.Proofs.YtdfgdpjlbcnkfaaGreatDoorW.PrintMore
open Go.RowKit Go.Proofs.YtdfgdpjlbcnkfaaGreatDoorW.PrintWords
namespace Kd
open Go.Proofs.YtdfgdpjlbcnkfaaGreatDoorW.PrintWords.Kd
end Kd
namespace Kd
open Go.Proofs.YtdfgdpjlbcnkfaaGreatDoorW.PrintWords.Kd
section
variable {α:Type} {d:Kd α} {e base g N:Nat} {ok:Nat→Prop} {W w1:World} {u v:Value} {xs:List α}
end
end Kd
end Go.Proofs.YtdfgdpjlbcnkfaaGreatDoorW.PrintMore
namespace Go.Proofs.YtdfgdpjlbcnkfaaGreatDoorW.PrintWords
open Go.RowKit
section
variable {P:Program} {ops:Array Oper} {rest:List Oper} {o:Oper} {a:Act} {Q:Exit→Act→World→Prop} {W:World}
end
def mx (a b:Int):Int:=if a<b then b else a
def shl (k:IntKind) (x y:Int):Int:=k.wrap (x * 2 ^ min y.toNat k.bits)
def shr (k:IntKind) (x y:Int):Int:=x / 2 ^ min y.toNat k.bits
namespace Kd
section
variable {α:Type} {d:Kd α} {e base:Nat} {ok:Nat→Prop} {W w1:World} {v:Value} {xs:List α}
end
section
variable {α:Type} {d:Kd α} {e base g n cap:Nat} {ok oki okp:Nat→Prop} {W:World} {xs:List α} {i:Int} {c:List Value}
end
section
variable {α:Type} {d:Kd α} {e base b b' g N:Nat} {ok ok1:Nat→Prop} {W W2 w1:World} {u v:Value} {xs ys:List α} {S:Nat→Prop}
end
end Kd
end Go.Proofs.YtdfgdpjlbcnkfaaGreatDoorW.PrintWords
namespace Go.Proofs.YtdfgdpjlbcnkfaaGreatDoorW.PrintWords
open Go.RowKit
namespace Kd
def V {α:Type} (d:Kd α) (_e:Nat) (W:World) (_base:Nat) (ok:Nat→Prop) (v:Value) (xs:List α):Prop:=∃ A c,v=.slice A xs.length c∧xs.length≤c∧F d W ok A xs.length xs
section
variable {α β:Type} {d:Kd α} {e base base' n m c g N' lo hi:Nat} {ok ok' S:Nat→Prop} {w W w1:World} {A:Option Addr} {ad:Addr} {u v v1:Value} {xs:List α}
end
end Kd
end Go.Proofs.YtdfgdpjlbcnkfaaGreatDoorW.PrintWords
namespace Go.Proofs.YtdfgdpjlbcnkfaaGreatDoor.Q
open Go.RowKit Go.Proofs.YtdfgdpjlbcnkfaaGreatDoorW.PrintWords Go.Proofs.YtdfgdpjlbcnkfaaGreatDoorW.PrintLast Go.Proofs.YtdfgdpjlbcnkfaaGreatDoorW.PrintMore
set_option linter.unusedVariables false
set_option linter.unusedSimpArgs false
theorem errW_none:errW none=.nilIface:=rfl
theorem errW_some (c:Int):errW (some c)=.iface 58 (.int .i64 c):=rfl
def GlobE (w:World):Prop:=w.cell? ⟨0,0,none⟩=some (.iface 98 (.agg #[.pointer (some ⟨4,26,none⟩)]))
theorem GlobE.below {w w1:World} (h:GlobE w) (hb:Below w.heap.size w w1):GlobE w1:=pw_cell_below hb h
def GlobM (w:World):Prop:=∃ m:Int,w.cell? ⟨1,0,none⟩=some (.int .i64 m)
theorem GlobM.below {w w1:World} (h:GlobM w) (hb:Below w.heap.size w w1):GlobM w1:=by
  obtain ⟨m,hm⟩:=h
  exact ⟨m,pw_cell_below hb hm⟩
section
open Go.Extern.Stop Go.Stop Go.Extern
theorem as_valueOfP (t:Addr) (w:World):(ReflectliteValue.unpack (.iface 60 (.pointer (some t)))).run Tryz.prog w
    = .ok (.agg #[.pointer (some ⟨4,60,none⟩),.pointer (some ⟨w.heap.size,0,none⟩),.int .u64 150]) (w.alloc (.cells #[.pointer (some t)] 60)):=by kernel_rfl
theorem as_typeP (a:Addr) (w:World):(ReflectliteValue.methodAny (ReflectliteValue.valueError "reflectlite.Value.Type" 0) (fun t _ _ _=>ReflectliteType.toType t) #[.agg #[.pointer (some ⟨4,60,none⟩),.pointer (some a),.int .u64 150]]).run Tryz.prog w
    = .ok (.iface 98 (.agg #[.pointer (some ⟨4,60,none⟩)])) w:=by kernel_rfl
theorem as_methodKind (h:Value) (w:World):(Go.method 279 98 (.agg #[h]) "Kind").run Tryz.prog w=.ok (109,h) w:=by kernel_rfl
theorem as_kindP (w:World):((ReflectliteType.abiMethod fun t=>(fun a:Nat=>Value.int IntKind.u8 (a:Int)) <$> Rtype.kind t) #[.pointer (some ⟨4,60,none⟩)]).run Tryz.prog w=.ok (.int .u8 22) w:=by kernel_rfl
theorem as_kindE (w:World):((ReflectliteType.abiMethod fun t=>(fun a:Nat=>Value.int IntKind.u8 (a:Int)) <$> Rtype.kind t) #[.pointer (some ⟨4,58,none⟩)]).run Tryz.prog w=.ok (.int .u8 2) w:=by kernel_rfl
theorem as_rlm (z:Sem Value) (f:TypeId→Addr→Nat→Nat→Sem Value) (v:Value) :
    ReflectliteValue.method z f #[v]=(do match ← ReflectliteValue.parts v with|none=>z|some (t,a,fl)=>f t a fl (fl % 32)):=rfl
theorem as_partsP (a:Addr) (w:World):(ReflectliteValue.parts (.agg #[.pointer (some ⟨4,60,none⟩),.pointer (some a),.int .u64 150])).run Tryz.prog w=.ok (some (60,a,150)) w:=by kernel_rfl
theorem as_isNilP (a p:Addr) (W:World) (ha:W.cell? a=some (.pointer (some p))) :
    (ReflectliteValue.method (ReflectliteValue.valueError "reflectlite.Value.IsNil" 0) ReflectliteValue.isNil #[.agg #[.pointer (some ⟨4,60,none⟩),.pointer (some a),.int .u64 150]]).run Tryz.prog W=.ok (.bool false) W:=by
  rw [as_rlm]
  simp only [Sem.run_bind,as_partsP,Result.andThen]
  simp [ReflectliteValue.isNil,loadVar,isAgg,underlying,Tryz.underlying60,ha,Result.andThen]
theorem as_methodElem (h:Value) (w:World):(Go.method 279 98 (.agg #[h]) "Elem").run Tryz.prog w=.ok (120,.agg #[h]) w:=by kernel_rfl
theorem as_methodImplements (h:Value) (w:World):(Go.method 279 98 (.agg #[h]) "Implements").run Tryz.prog w=.ok (121,.agg #[h]) w:=by kernel_rfl
theorem as_methodAssignableTo (h:Value) (w:World):(Go.method 279 98 (.agg #[h]) "AssignableTo").run Tryz.prog w=.ok (118,.agg #[h]) w:=by kernel_rfl
theorem as_elemP (w:World):(ReflectliteType.method ReflectliteType.elem #[.agg #[.pointer (some ⟨4,60,none⟩)]]).run Tryz.prog w=.ok (.iface 98 (.agg #[.pointer (some ⟨4,58,none⟩)])) w:=by kernel_rfl
theorem as_implementsE (w:World):(ReflectliteType.relation "Implements" ReflectliteType.implements_ #[.agg #[.pointer (some ⟨4,58,none⟩)],.iface 98 (.agg #[.pointer (some ⟨4,26,none⟩)])]).run Tryz.prog w=.ok (.bool true) w:=by kernel_rfl
theorem as_typeOfE (v:Value) (w:World):(ReflectliteType.typeOf #[.iface 58 v]).run Tryz.prog w=.ok (.iface 98 (.agg #[.pointer (some ⟨4,58,none⟩)])) w:=by kernel_rfl
theorem as_assignableE (w:World):(ReflectliteType.relation "AssignableTo" ReflectliteType.assignableTo #[.agg #[.pointer (some ⟨4,58,none⟩)],.iface 98 (.agg #[.pointer (some ⟨4,58,none⟩)])]).run Tryz.prog w=.ok (.bool true) w:=by kernel_rfl
theorem as_valueOfE (c:Int) (w:World):(ReflectliteValue.unpack (.iface 58 (.int .i64 c))).run Tryz.prog w
    = .ok (.agg #[.pointer (some ⟨4,58,none⟩),.pointer (some ⟨w.heap.size,0,none⟩),.int .u64 130]) (w.alloc (.cells #[.int .i64 c] 58)):=by kernel_rfl
theorem as_elemOfP (w:World):(Rtype.elem? 60).run Tryz.prog w=.ok (some 58) w:=by kernel_rfl
theorem as_mkE (p:Addr) (w:World):(ReflectliteValue.mk 58 p ReflectliteValue.flagAddr).run Tryz.prog w=.ok (.agg #[.pointer (some ⟨4,58,none⟩),.pointer (some p),.int .u64 386]) w:=by kernel_rfl
theorem as_elemVP (a p:Addr) (W:World) (ha:W.cell? a=some (.pointer (some p))) :
    (ReflectliteValue.method (ReflectliteValue.valueError "reflectlite.Value.Elem" 0) ReflectliteValue.elem #[.agg #[.pointer (some ⟨4,60,none⟩),.pointer (some a),.int .u64 150]]).run Tryz.prog W
      = .ok (.agg #[.pointer (some ⟨4,58,none⟩),.pointer (some p),.int .u64 386]) W:=by
  rw [as_rlm]
  simp only [Sem.run_bind,as_partsP,Result.andThen]
  simp [ReflectliteValue.elem,loadVar,isAgg,underlying,Tryz.underlying60,ha,Result.andThen,as_elemOfP,as_mkE]
theorem as_rls (v x:Value):ReflectliteValue.set #[v,x]=(do
    let (some (dst,a,fl),some (src,b,_)):=(← ReflectliteValue.parts v,← ReflectliteValue.parts x)
      | unsupported (.noEntry "extern/(internal/reflectlite.Value).Set.zeroValue")
    if fl / ReflectliteValue.flagAddr % 2 == 0 then unsupported (.noEntry "extern/(internal/reflectlite.Value).Set.unaddressable")
    let val ← loadVar src b
    if ← Rtype.directlyAssignable dst src then storeVar dst a val
    else if ← Rtype.implements dst src then
      if (← Rtype.kind src) == 20 then
        match val with
        | .nilIface=>unsupported (.noEntry "extern/reflectlite: a nil value of one interface type handed on as a value of another")
        | _=>storeVar dst a val
      else storeVar dst a (.iface src val)
    else panicString ("reflectlite.Set: value of type " ++ (← Rtype.spelt src) ++ " is not assignable to type " ++ (← Rtype.spelt dst))
    pure (.tuple #[])):=rfl
theorem as_partsEa (a:Addr) (w:World):(ReflectliteValue.parts (.agg #[.pointer (some ⟨4,58,none⟩),.pointer (some a),.int .u64 386])).run Tryz.prog w=.ok (some (58,a,386)) w:=by kernel_rfl
theorem as_partsE (a:Addr) (w:World):(ReflectliteValue.parts (.agg #[.pointer (some ⟨4,58,none⟩),.pointer (some a),.int .u64 130])).run Tryz.prog w=.ok (some (58,a,130)) w:=by kernel_rfl
theorem as_directE (w:World):(Rtype.directlyAssignable 58 58).run Tryz.prog w=.ok true w:=by kernel_rfl
theorem as_setE (ta b:Addr) (c:Int) (old:Value) (W:World) (hb:W.cell? b=some (.int .i64 c)) (ht:W.cell? ta=some old) (hf:W.frozen? ta=false) :
    (ReflectliteValue.set #[.agg #[.pointer (some ⟨4,58,none⟩),.pointer (some ta),.int .u64 386],.agg #[.pointer (some ⟨4,58,none⟩),.pointer (some b),.int .u64 130]]).run Tryz.prog W
      = .ok (.tuple #[]) (W.setCell ta (.int .i64 c)):=by
  rw [as_rls]
  simp only [Sem.run_bind,as_partsEa,as_partsE,Result.andThen]
  simp [ReflectliteValue.flagAddr,loadVar,isAgg,underlying,Tryz.underlying58,hb,Result.andThen,as_directE,storeVar,Value.cells,storeCells,Addr.add]
  rw [run_store Tryz.prog W ta _ _ (by rfl)]
  simp [ht,hf]
set_option maxHeartbeats 4000000 in
theorem as_hit (c:Int) (t:Addr) (old:Value) (w:World) (hg:w.cell? ⟨0,0,none⟩=some (.iface 98 (.agg #[.pointer (some ⟨4,26,none⟩)]))) (ht0:w.cell? t=some old) (hf0:w.frozen? t=false) :
    Calls Tryz.prog 20 #[.iface 58 (.int .i64 c),.iface 60 (.pointer (some t))] w fun ev w'=>ev=.returned (.bool true)∧w'=((((w.alloc (.cells #[.pointer (some t)] 60)).alloc (.cells #[.pointer (some ⟨4,60,none⟩),.pointer (some ⟨w.heap.size,0,none⟩),.int .u64 150] 78)).alloc (.cells #[.pointer (some ⟨4,60,none⟩),.pointer (some ⟨w.heap.size,0,none⟩),.int .u64 150] 78)).alloc (.cells #[.int .i64 c] 58)).setCell t (.int .i64 c):=by
  have h6:=@run_callFunc_extern Tryz.prog 28 _ (fun args=>ReflectliteValue.unpack (args.getD 0 (.tuple #[]))) Tryz.func28 (by kernel_rfl) (by kernel_rfl) (by kernel_rfl) (by kernel_rfl)
  have h7:=@run_callFunc_extern Tryz.prog 29 _ (ReflectliteValue.methodAny (ReflectliteValue.valueError "reflectlite.Value.Type" 0) (fun t _ _ _=>ReflectliteType.toType t)) Tryz.func29 (by kernel_rfl) (by kernel_rfl) (by kernel_rfl) (by kernel_rfl)
  have h8:=@run_callFunc_extern Tryz.prog 30 _ (ReflectliteValue.method (ReflectliteValue.valueError "reflectlite.Value.IsNil" 0) ReflectliteValue.isNil) Tryz.func30 (by kernel_rfl) (by kernel_rfl) (by kernel_rfl) (by kernel_rfl)
  have h27:=@run_callFunc_extern Tryz.prog 109 _ (ReflectliteType.abiMethod fun t=>do pure (.int .u8 (← Rtype.kind t))) Tryz.func109 (by kernel_rfl) (by kernel_rfl) (by kernel_rfl) (by kernel_rfl)
  have h37:=@run_callFunc_extern Tryz.prog 120 _ (ReflectliteType.method ReflectliteType.elem) Tryz.func120 (by kernel_rfl) (by kernel_rfl) (by kernel_rfl) (by kernel_rfl)
  have h38:=@run_callFunc_extern Tryz.prog 121 _ (ReflectliteType.relation "Implements" ReflectliteType.implements_) Tryz.func121 (by kernel_rfl) (by kernel_rfl) (by kernel_rfl) (by kernel_rfl)
  have h10:=@run_callFunc_extern Tryz.prog 38 _ ReflectliteType.typeOf Tryz.func38 (by kernel_rfl) (by kernel_rfl) (by kernel_rfl) (by kernel_rfl)
  have h35:=@run_callFunc_extern Tryz.prog 118 _ (ReflectliteType.relation "AssignableTo" ReflectliteType.assignableTo) Tryz.func118 (by kernel_rfl) (by kernel_rfl) (by kernel_rfl) (by kernel_rfl)
  have h11:=@run_callFunc_extern Tryz.prog 39 _ (ReflectliteValue.method (ReflectliteValue.valueError "reflectlite.Value.Elem" 0) ReflectliteValue.elem) Tryz.func39 (by kernel_rfl) (by kernel_rfl) (by kernel_rfl) (by kernel_rfl)
  have h12:=@run_callFunc_extern Tryz.prog 40 _ ReflectliteValue.set Tryz.func40 (by kernel_rfl) (by kernel_rfl) (by kernel_rfl) (by kernel_rfl)
  have tO:=as_typeOfE
  have mA:=as_methodAssignableTo
  have a25:=as_assignableE
  have v25:=as_valueOfE
  have f6:=as_valueOfP
  have f7:=as_typeP
  have mK:=as_methodKind
  have mE:=as_methodElem
  have mI:=as_methodImplements
  have k27:=as_kindP
  have k25:=as_kindE
  have e27:=as_elemP
  have i25:=as_implementsE
  have n8:=as_isNilP ⟨w.heap.size,0,none⟩ t ((w.alloc (.cells #[.pointer (some t)] 60)).alloc (.cells #[.pointer (some ⟨4,60,none⟩),.pointer (some ⟨w.heap.size,0,none⟩),.int .u64 150] 78)) (by simp)
  have hlt:0<w.heap.size:=World.block_lt_of_cell? w ⟨0,0,none⟩ hg
  have hg2:((w.alloc (.cells #[.pointer (some t)] 60)).alloc (.cells #[.pointer (some ⟨4,60,none⟩),.pointer (some ⟨w.heap.size,0,none⟩),.int .u64 150] 78)).cell? ⟨0,0,none⟩=some (.iface 98 (.agg #[.pointer (some ⟨4,26,none⟩)])):=by
    rw [World.cell?_alloc_lt _ _ ⟨0,0,none⟩ (by simp <;> omega),World.cell?_alloc_lt _ _ ⟨0,0,none⟩ hlt];exact hg
  have htl:t.block<w.heap.size:=World.block_lt_of_cell? w t ht0
  have el:=as_elemVP ⟨w.heap.size,0,none⟩ t (((w.alloc (.cells #[.pointer (some t)] 60)).alloc (.cells #[.pointer (some ⟨4,60,none⟩),.pointer (some ⟨w.heap.size,0,none⟩),.int .u64 150] 78)).alloc (.cells #[.pointer (some ⟨4,60,none⟩),.pointer (some ⟨w.heap.size,0,none⟩),.int .u64 150] 78)) (by rw [World.cell?_alloc_lt _ _ ⟨w.heap.size,0,none⟩ (by simp;omega)];simp)
  have st:=as_setE t ⟨w.heap.size+1+1+1,0,none⟩ c old ((((w.alloc (.cells #[.pointer (some t)] 60)).alloc (.cells #[.pointer (some ⟨4,60,none⟩),.pointer (some ⟨w.heap.size,0,none⟩),.int .u64 150] 78)).alloc (.cells #[.pointer (some ⟨4,60,none⟩),.pointer (some ⟨w.heap.size,0,none⟩),.int .u64 150] 78)).alloc (.cells #[.int .i64 c] 58))
    (by rw [World.cell?_alloc_at _ _ _ _ (by simp)];rfl)
    (by rw [World.cell?_alloc_lt _ _ t (by simp;omega),World.cell?_alloc_lt _ _ t (by simp;omega),World.cell?_alloc_lt _ _ t (by simp;omega),World.cell?_alloc_lt _ _ t htl];exact ht0)
    (by rw [World.frozen?_alloc_old _ _ t (by simp;omega),World.frozen?_alloc_old _ _ t (by simp;omega),World.frozen?_alloc_old _ _ t (by simp;omega),World.frozen?_alloc_old _ _ t (Nat.ne_of_lt htl)];exact hf0)
  go_enter Tryz.func20,Tryz.ntmps20
  go_wp2
  refine wp_loop_rounds 1 ?_
  rw [rounds_succ]
  go_wp2
  go_ret
  exact ⟨rfl,rfl⟩
end
def turnstilelaw13_num.f (a0:Option Int):Option Int:=some (a0.getD 0)
set_option maxHeartbeats 4000000 in
theorem turnstilelaw13_num.calls (a0:Option Int) (r:Int) (w:World) (hG:GlobE w) (h:turnstilelaw13_num.f a0=some r) :
    Calls Tryz.prog 7 #[errW a0] w fun e w'=>e=.returned (.int .i64 r)∧Below w.heap.size w w':=by
  obtain rfl:=Option.some.inj h
  cases a0 with
  | none =>
    go_enter Tryz.func7,Tryz.ntmps7
    simp only [errW_none]
    go_wp2
    go_ret
    exact ⟨rfl,by repeat (first|exact Below.refl _ _|apply below_alloc|apply pw_below_drewN|apply below_drew1)⟩
  | some c =>
    have hg:=(hG.below (below_alloc (Below.refl w.heap.size w) (.cells #[.int .i64 0] 58)))
    have ht:(w.alloc (.cells #[.int .i64 0] 58)).cell? ⟨w.heap.size,0,none⟩=some (.int .i64 0):=by simp
    have hf:(w.alloc (.cells #[.int .i64 0] 58)).frozen? ⟨w.heap.size,0,none⟩=false:=by simp
    have hc:=as_hit c ⟨w.heap.size,0,none⟩ (.int .i64 0) _ hg ht hf
    clear hg ht hf hG
    go_enter Tryz.func7,Tryz.ntmps7
    simp only [errW_some]
    go_wp2_with (go_at_call 20;refine hc.mono ?_;rintro e w' ⟨rfl,rfl⟩)
    go_ret
    exact ⟨rfl,by repeat (first|exact Below.refl _ _|apply below_alloc|apply pw_below_drewN|apply below_drew1)⟩
def dch (m:Nat):UInt8:=if m<10 then (48+m).toUInt8 else (87+m).toUInt8
def dgs (b:Nat):Nat→Nat→List UInt8→List UInt8
  | 0,_,acc=>acc
  | f+1,n,acc=>if n / b=0 then dch (n % b) :: acc else dgs b f (n / b) (dch (n % b) :: acc)
def chars_digits.f (a0 a1:Int):Option ByteArray:=if 0≤a0∧a0<18446744073709551616∧10≤a1∧a1≤16 then some ⟨(dgs a1.toNat 20 a0.toNat []).toArray⟩ else none
def cellsD (i:Nat) (l:List UInt8):Array Value:=(List.replicate i (Value.int .u8 0)++l.map (fun c=>Value.int .u8 (c.toNat:Int))).toArray
theorem cellsD_zero:(#[Value.int .u8 0,.int .u8 0,.int .u8 0,.int .u8 0,.int .u8 0,.int .u8 0,.int .u8 0,.int .u8 0,.int .u8 0,.int .u8 0,.int .u8 0,.int .u8 0,.int .u8 0,.int .u8 0,.int .u8 0,.int .u8 0,.int .u8 0,.int .u8 0,.int .u8 0,.int .u8 0]:Array Value)=cellsD 20 []:=rfl
theorem cellsD_get (i:Nat) (l:List UInt8) (j:Nat) (h:j<i):(cellsD i l)[j]? = some (.int .u8 0):=by
  simp [cellsD,List.getElem?_append,h]
theorem cellsD_tail (i:Nat) (l:List UInt8) (j:Nat) (h:j<l.length):(cellsD i l)[i+j]? = some (.int .u8 (l[j].toNat:Int)):=by
  simp [cellsD,List.getElem?_append,h]
theorem cellsD_set (i:Nat) (l:List UInt8) (c:UInt8):(cellsD (i+1) l).setIfInBounds i (.int .u8 (c.toNat:Int))=cellsD i (c :: l):=by
  simp [cellsD,List.replicate_succ',List.set_append]
theorem dig_lt (n b:Nat) (i:Nat) (hb:10≤b) (h:n<b ^ (i+1)):n / b<b ^ i:=by
  rw [Nat.div_lt_iff_lt_mul (by omega)]
  rwa [Nat.pow_succ] at h
theorem dig_top (n b:Nat) (hb:10≤b) (h:n<18446744073709551616):n<b ^ 20:=Nat.lt_of_lt_of_le h (Nat.le_trans (by decide) (Nat.pow_le_pow_left hb 20))
def dgR (b i n:Nat) (l:List UInt8):List UInt8:=if i=20∨0<n then dgs b i n l else l
theorem dgR_step (b i n:Nat) (l:List UInt8) (hi:i<20) (h:i+1=20∨0<n):dgR b i (n / b) (dch (n % b) :: l)=dgR b (i+1) n l:=by
  unfold dgR
  rw [if_pos h]
  conv=>rhs;unfold dgs
  by_cases hz:n / b=0
  · rw [if_pos hz,if_neg (by omega)]
  · rw [if_neg hz,if_pos (.inr (Nat.pos_of_ne_zero hz))]
theorem dstr_get (j:Nat) (h:j<16):((⟨#[48,49,50,51,52,53,54,55,56,57,97,98,99,100,101,102]⟩:ByteArray)[j]'h)=dch j:=by
  have:j=0∨j=1∨j=2∨j=3∨j=4∨j=5∨j=6∨j=7∨j=8∨j=9∨j=10∨j=11∨j=12∨j=13∨j=14∨j=15:=by omega
  rcases this with rfl|rfl|rfl|rfl|rfl|rfl|rfl|rfl|rfl|rfl|rfl|rfl|rfl|rfl|rfl|rfl <;> rfl
set_option maxHeartbeats 4000000 in
set_option maxRecDepth 100000 in
theorem chars_digits.calls (a0 a1:Int) (r:ByteArray) (w:World) (h:chars_digits.f a0 a1=some r) :
    Calls Tryz.prog 42 #[.int .u64 a0,.int .u64 a1] w fun e w'=>e=.returned (.string r)∧Below w.heap.size w w':=by
  unfold chars_digits.f at h
  split at h
  case isFalse=>cases h
  rename_i hb
  obtain ⟨h0,h1,hb0,hb1⟩:=hb
  obtain ⟨n,rfl⟩:=Int.eq_ofNat_of_zero_le h0
  obtain ⟨b,rfl⟩:=Int.eq_ofNat_of_zero_le (show (0:Int)≤a1 by omega)
  have hr:=Aside0.mk (Option.some.inj h)
  clear h
  have HN:=Aside0.mk (show n<18446744073709551616 by omega)
  clear h1 h0
  go_enter Tryz.func42,Tryz.ntmps42
  go_wp2
  go_loopw [0,6] (fun vn vi wr=>∃ (m i:Nat) (l:List UInt8),vn=.int .u64 m∧vi=.int .i64 i∧i≤20∧Aside0 (m<18446744073709551616)∧Aside0 (l.length+i=20)∧Aside0 (dgR b i m l=dgs b 20 n [])∧Aside0 (m<b ^ i)∧Aside0 (wr.heap[w.heap.size]? = some (.cells (cellsD i l) 115 (0,0)))∧Aside0 (Below w.heap.size w wr)) (fun _ vi _=>(intOf vi).toNat)
  case atStart=>exact ⟨n,20,[],rfl,rfl,by omega,HN,⟨rfl⟩,⟨by simp [dgR]⟩,⟨dig_top n b (by omega) HN.out⟩,⟨by rw [← cellsD_zero];exact blk_new _ _⟩,⟨below_alloc (Below.refl _ _) _⟩⟩
  case round =>
    obtain ⟨m,i,l,rfl,rfl,hi,Hm,HL,HR,HM,HC,HB⟩:=hrel
    by_cases hgo:i=20∨0<m
    · have hi1:1≤i:=by
        rcases hgo with rfl|hgo
        · omega
        · rcases Nat.eq_zero_or_pos i with rfl|hp
          · have:=HM.out;simp at this;omega
          · omega
      have HG:=Aside0.mk hgo
      clear hgo
      have hix:((i:Int) - 1).toNat=i - 1:=by omega
      have hmb:(m:Int) % (b:Int)<16:=by have:=Int.emod_lt_of_pos (m:Int) (show (0:Int)<b by omega);omega
      have hmn:m % b<16:=by have:=Nat.mod_lt m (show 0<b by omega);omega
      have hw:IntKind.u64.wrap ((m:Int) / (b:Int))=((m / b:Nat):Int):=by
        have h1:=Hm.out
        have h2:m / b≤m:=Nat.div_le_self m b
        rw [← Int.natCast_ediv]
        generalize m / b=q at h2 ⊢
        exact IntWalk.u64_in _ (by omega)
      have hc:wr.cell? ⟨w.heap.size,i - 1,none⟩=some (.int .u8 0):=by rw [blk_cell HC.out (i - 1)];exact cellsD_get i l (i - 1) (by omega)
      have hf:wr.frozen? ⟨w.heap.size,i - 1,none⟩=false:=blk_frozen HC.out (i - 1)
      have hfin:∃ (m_1 i_1:Nat) (l':List UInt8),Value.int IntKind.u64 ((m / b:Nat):Int)=Value.int IntKind.u64 ↑m_1∧Value.int IntKind.i64 ((i:Int) - 1)=Value.int IntKind.i64 ↑i_1∧i_1≤20∧Aside0 (m_1<18446744073709551616)∧Aside0 (l'.length+i_1=20)∧Aside0 (dgR b i_1 m_1 l'=dgs b 20 n [])∧Aside0 (m_1<b ^ i_1) ∧
          Aside0 ((wr.setCell ⟨w.heap.size,i - 1,none⟩ (.int .u8 ((⟨#[48,49,50,51,52,53,54,55,56,57,97,98,99,100,101,102]⟩:ByteArray)[m % b].toNat:Int))).heap[w.heap.size]? = some (.cells (cellsD i_1 l') 115))∧Aside0 (Below w.heap.size w (wr.setCell ⟨w.heap.size,i - 1,none⟩ (.int .u8 ((⟨#[48,49,50,51,52,53,54,55,56,57,97,98,99,100,101,102]⟩:ByteArray)[m % b].toNat:Int)))):=by
        obtain ⟨i,rfl⟩:∃ j,i=j+1:=⟨i - 1,by omega⟩
        refine ⟨m / b,i,dch (m % b) :: l,rfl,by congr 1;omega,by omega,⟨Nat.lt_of_le_of_lt (Nat.div_le_self _ _) Hm.out⟩,⟨by have:=HL.out;simp;omega⟩,⟨by rw [dgR_step b i m l (by omega) HG.out];exact HR.out⟩,⟨dig_lt m b i (by omega) HM.out⟩,⟨?_⟩,⟨below_set HB.out (Nat.le_refl _)⟩⟩
        refine blk_put HC.out i _ ?_
        rw [← cellsD_set]
        congr 2
        rw [dstr_get (m % b) hmn]
      have HF:=Aside0.mk hfin
      clear hfin
      by_cases h20:i=20
      · have t1:((i:Int) == 20)=true:=beq_iff_eq.2 (by omega)
        clear h20
        go_wp2
        exact ⟨HF.out,by simp [intOf];omega⟩
      · have t1:((i:Int) == 20)=false:=beq_eq_false_iff_ne.2 (by omega)
        have t2:decide (0<m)=true:=decide_eq_true (by have:=HG.out;omega)
        clear h20
        go_wp2
        exact ⟨HF.out,by simp [intOf];omega⟩
    · have t1:((i:Int) == 20)=false:=beq_eq_false_iff_ne.2 (by omega)
      have t2:decide (0<m)=false:=decide_eq_false (by omega)
      have HG:=Aside0.mk hgo
      clear hgo
      have hal:Tryz.prog.arrayLen 115=20:=by kernel_rfl
      have hne:¬ (20=i):=by have:=HG.out;omega
      have hsl:∀ W:World,(Instr.sliceAt 115 (.pointer (some ⟨w.heap.size,0,none⟩)) (some (.int .i64 (i:Int))) none none).run Tryz.prog W=.ok (.slice (some ⟨w.heap.size,i,none⟩) (20 - i) (20 - i)) W:=fun W=>by
        have:=run_sliceAt_array_l (P:=Tryz.prog) (w:=W) (t:=115) (a:=⟨w.heap.size,0,none⟩) (by kernel_rfl) .i64 (i:Int) (by omega) (by rw [hal];omega)
        rw [this,hal]
        have hsz:(sizeOf (Tryz.prog.elem 115)).run Tryz.prog W=.ok 1 W:=by kernel_rfl
        rw [hsz]
        simp [Result.andThen,slicedAt,hne,Addr.add]
        omega
      have hcv:(convert 24 9 (.slice (some ⟨w.heap.size,i,none⟩) (20 - i) (20 - i))).run Tryz.prog wr=.ok (.string ⟨l.toArray⟩) wr:=by
        have:=run_convert_bytes_back (P:=Tryz.prog) wr 24 9 5 ⟨w.heap.size,i,none⟩ (20 - i) l (by kernel_rfl) (by kernel_rfl) (by kernel_rfl) (fun j hj=>by
          rw [show (⟨w.heap.size,i,none⟩:Addr).add j=⟨w.heap.size,i+j,none⟩ from by simp [Addr.add]]
          rw [blk_cell HC.out (i+j)]
          exact cellsD_tail i l j hj)
        rw [show l.length=20 - i by have:=HL.out;omega] at this
        exact this
      have hres:Value.string ⟨l.toArray⟩=Value.string r:=by
        rw [← hr.out]
        have:=HR.out
        rw [dgR,if_neg HG.out] at this
        rw [this]
        simp
      have HRES:=Aside0.mk hres
      clear hal hne hres
      go_wp2
      go_ret
      exact ⟨congrArg (fun v=>Ending.returned v) HRES.out,HB.out⟩
end Go.Proofs.YtdfgdpjlbcnkfaaGreatDoor.Q
namespace Go.Proofs.YtdfgdpjlbcnkfaaGreatDoor.Q
open Go Go.Proofs.YtdfgdpjlbcnkfaaGreatDoorAbs Go.Proofs Go.RowKit
set_option linter.unusedVariables false
set_option linter.unusedSimpArgs false
theorem rel_GE {ρ:Ren} {S:St} {w:World} (h:Rel Tryz.prog ρ S w) (hb:S.get 0=some geB):GlobE w:=by
  obtain ⟨u,h1,h2⟩:=rel_glob h (g:=0) (Nat.zero_le _) hb rfl
  obtain ⟨u1,rfl,i2⟩:=h2.iface_inv
  obtain ⟨ys,rfl,i3⟩:=i2.agg_inv
  obtain ⟨y,ys',hy,i4,h3⟩:=i3.uncons
  obtain rfl:=h3.of_nil
  obtain ⟨L,loc,A,h4,h5,h6,h7,rfl⟩:=i4.ptr_inv
  cases h4
  have h8:=h.glob 4 (by rw [nglob];exact Nat.le_refl _)
  have h9:=h8.symm.trans h5
  cases h9
  have h8':(A:Int)=26:=by simpa using h7
  have:A=26:=by omega
  subst this
  have:ys=#[.pointer (some ⟨4,26,none⟩)]:=Array.ext' hy
  subst this
  exact h1
def errV:Value→Option (Option Int)
  | .nilIface=>some none
  | .iface 58 (.int .i64 c)=>some (some c)
  | _=>none
theorem errV_eq {v:Value} {r:Option Int} (h:errV v=some r):v=errW r:=by
  unfold errV at h
  split at h <;> first|(cases h;rfl)|cases h
theorem errV_errW (r:Option Int):errV (errW r)=some r:=by cases r <;> rfl
theorem errW_leaf (r:Option Int):leaf (errW r)=true:=by cases r <;> rfl
open Classical in
noncomputable def pNum13 (_:Nat) (xs:Array Value) (S:St):Option Value:=match xs with
  | ⟨[v]⟩=>if S.get 0=some geB then (errV v).map fun r=>.int .i64 (numF r) else none
  | _=>none
theorem still_num13 (k:Nat):Still Tryz.prog 7 (pNum13 k):=⟨fun xs S v h ρ w ys hrel hxs=>by
  unfold pNum13 at h
  split at h
  case h_2=>cases h
  rename_i u
  split at h
  case isFalse=>cases h
  rename_i hg
  obtain ⟨r,h1,rfl⟩:=Option.map_eq_some_iff.1 h
  obtain rfl:=errV_eq h1
  obtain ⟨y,ys',hy,h4,h5⟩:=hxs.uncons
  obtain rfl:=h5.of_nil
  obtain rfl:=h4.leaf_eq (errW_leaf r)
  obtain rfl:ys=#[errW r]:=Array.ext' hy
  have hn:turnstilelaw13_num.f r=some (numF r):=by cases r <;> rfl
  exact (turnstilelaw13_num.calls r _ w (rel_GE hrel hg) hn).mono fun e w' ⟨h1,h2⟩=>⟨_,h1,VR.scalar rfl,h2⟩⟩
def pDig (_:Nat) (xs:Array Value) (_:St):Option Value:=match xs with
  | ⟨[.int .u64 n,.int .u64 10]⟩=>(chars_digits.f n 10).map .string
  | _=>none
theorem still_dig (k:Nat):Still Tryz.prog 42 (pDig k):=⟨fun xs S v h ρ w ys hrel hxs=>by
  unfold pDig at h
  split at h
  case h_2=>cases h
  rename_i n
  obtain ⟨r,h1,rfl⟩:=Option.map_eq_some_iff.1 h
  obtain ⟨y,ys',hy,h4,h5⟩:=hxs.uncons
  obtain ⟨z,zs',rfl,h6,h7⟩:=h5.uncons
  obtain rfl:=h7.of_nil
  obtain rfl:=h4.leaf_eq rfl
  obtain rfl:=h6.leaf_eq rfl
  obtain rfl:ys=#[.int .u64 n,.int .u64 10]:=Array.ext' hy
  exact (chars_digits.calls n 10 r w h1).mono fun e w' ⟨h1,h2⟩=>⟨_,h1,VR.scalar rfl,h2⟩⟩
def pSure (_:Nat) (xs:Array Value) (_:St):Option Value:=if xs=#[] then some (.bool true) else none
theorem still_sure (k:Nat):Still Tryz.prog 8 (pSure k):=⟨fun xs S v h ρ w ys hrel hxs=>by
  unfold pSure at h
  split at h
  case isFalse=>cases h
  rename_i hc
  subst hc
  cases h
  obtain ⟨S1,hk⟩:=isTrue_some sure_run
  have hy:ys=#[]:=by
    have:=hxs.1
    simp at this
    exact Array.eq_empty_of_size_eq_zero this.symm
  subst hy
  refine (calls_of_run (u:=.bool true) prims0_sim mixed rfl (by rw [nglob];exact hk) hrel (fun g cs _ hg=>by cases hg)).mono ?_
  rintro e w' ⟨rfl,hb⟩
  exact ⟨_,rfl,VR.scalar rfl,hb⟩⟩
noncomputable def primL2:List (FuncId × (Nat→Array Value→St→Option Value)):=[(66,pIdxS),(54,pIdxB),(70,pIdx1),(71,pTrim),(7,pNum13),(42,pDig),(8,pSure)]
noncomputable def prims2:Prims:=stills primL2
theorem prims2_sim:PrimSim Tryz.prog prims2:=stills_sim fun x hx k=>by
  simp only [primL2,List.mem_cons,List.not_mem_nil,or_false] at hx
  rcases hx with rfl|rfl|rfl|rfl|rfl|rfl|rfl
  · exact still_idxS k
  · exact still_idxB k
  · exact still_idx1 k
  · exact still_trim k
  · exact still_num13 k
  · exact still_dig k
  · exact still_sure k
theorem prims2_ok:HB prims2 where
  no:=fun f hf k=>by
    simp only [isPrim,Bool.or_eq_false_iff,beq_eq_false_iff_ne,ne_eq] at hf
    obtain ⟨⟨⟨⟨⟨⟨⟨h1,h2⟩,h3⟩,h4⟩,h5⟩,h6⟩,h7⟩,h8⟩:=hf
    have:primL2.find? (fun x=>x.1 == f)=none:=by
      rw [List.find?_eq_none]
      intro x hx
      simp only [primL2,List.mem_cons,List.not_mem_nil,or_false] at hx
      rcases hx with rfl|rfl|rfl|rfl|rfl|rfl|rfl <;> simp <;> omega
    simp only [prims2,stills,this]
  idxS:=fun s c S Q hq=>C_prim ⟨0,fun k' _=>⟨_,rfl,rfl⟩⟩ hq
  idxB:=fun S v n xs c Q hO hq=>by
    rcases hO.2.2 with ⟨rfl,h0⟩|⟨b,m,rfl,h1,h2,h3,h4⟩
    · have:xs = []:=by have:=hO.1;subst h0;simpa [u8v] using this
      subst this
      exact C_prim ⟨0,fun k' _=>⟨_,rfl,rfl⟩⟩ hq
    · have hc:=cellsAt_own hO (u8v_leaf xs) Nat.one_pos
      have hne:u8v xs ≠ []:=fun e=>by have:=hO.1;rw [e] at this;simp at this;omega
      refine C_prim ⟨0,fun k' _=>⟨_,rfl,?_⟩⟩ hq
      have:pIdxB k' #[.slice (some ⟨b,0,some (u8v xs).length⟩) n (UNK+1),.int .u8 c] S=some (.int .i64 (Lib.indexByte xs c.toNat.toUInt8)):=by
        unfold pIdxB
        simp only [hc,Option.bind_some,if_neg hne,nums8_u8v,Option.map_some,bytes_u8v]
      exact congrArg (Option.map fun x=>(x,S)) this
  idx1:=fun S v n xs b2 m c Q hO hn hb hm hq=>by
    have hc:=cellsAt_own hO (u8v_leaf xs) Nat.one_pos
    have hne:u8v xs ≠ []:=fun e=>by have:=hO.1;rw [e] at this;simp at this;omega
    have hs:cellsAt 1 S (.slice (some ⟨b2,0,some 1⟩) 1 1)=some [.int .u8 c]:=by
      simp only [cellsAt]
      rw [if_neg (by decide)]
      have:aread S ⟨b2,0,some 1⟩ (1 * 1)=some [.int .u8 c]:=by
        unfold aread
        simp only [hb]
        rw [if_pos ⟨fun _=>⟨hm,by simp⟩,by simp⟩]
        rfl
      simp [this,leaf]
    refine C_prim ⟨0,fun k' _=>⟨_,rfl,?_⟩⟩ hq
    have:pIdx1 k' #[v,.slice (some ⟨b2,0,some 1⟩) 1 1] S=some (.int .i64 (Lib.indexByte xs c.toNat.toUInt8)):=by
      unfold pIdx1
      simp only [hc,hs,Option.bind_some,if_neg hne,nums8_u8v,Option.map_some,bytes_u8v]
    exact congrArg (Option.map fun x=>(x,S)) this
  trim:=fun S s Q hs hq=>by
    refine C_prim ⟨0,fun k' _=>⟨_,rfl,?_⟩⟩ hq
    have:pTrim k' #[.string s,.string ⟨#[32,9]⟩] S=some (.string (trimB s)):=by
      unfold pTrim
      exact if_pos ⟨hs,rfl⟩
    exact congrArg (Option.map fun x=>(x,S)) this
  digits:=fun S n Q h0 h1 hq=>by
    refine C_prim (v:=.string ⟨(dgs 10 20 n.toNat []).toArray⟩) ⟨0,fun k' _=>⟨_,rfl,?_⟩⟩ (hq _)
    have:pDig k' #[.int .u64 n,.int .u64 10] S=some (.string ⟨(dgs 10 20 n.toNat []).toArray⟩):=by
      unfold pDig
      simp [chars_digits.f,h0,h1]
    exact congrArg (Option.map fun x=>(x,S)) this
  num13:=fun S e Q hg hq=>by
    refine C_prim ⟨0,fun k' _=>⟨_,rfl,?_⟩⟩ hq
    have:pNum13 k' #[errW e] S=some (.int .i64 (numF e)):=by
      unfold pNum13
      simp only [if_pos hg,errV_errW,Option.map_some]
    exact congrArg (Option.map fun x=>(x,S)) this
  sure:=fun S Q hq=>by
    refine C_prim ⟨0,fun k' _=>⟨_,rfl,?_⟩⟩ hq
    have:pSure k' #[] S=some (.bool true):=rfl
    exact congrArg (Option.map fun x=>(x,S)) this
def glE:Nat→Option (List Value):=fun|0=>some [.iface 98 (.agg #[.pointer (some ⟨4,26,some 0⟩)])]|_=>none
theorem startE {w:World} (hE:GlobE w) (hG:4<w.heap.size):YtdfgdpjlbcnkfaaGreatDoorAbs.Start Tryz.prog (Ren.start 4) (St.start 4 glE) w:=by
  have st0:YtdfgdpjlbcnkfaaGreatDoorAbs.Start Tryz.prog (Ren.start Tryz.prog.globals.size) (St.start Tryz.prog.globals.size glE) w:=by
    refine start0 glE (by rw [nglob];exact hG) fun g cs hg hgl j v hj=>?_
    unfold glE at hgl
    split at hgl
    · cases hgl
      match j,hj with
      | 0,hj =>
        cases hj
        refine ⟨_,hE,?_⟩
        refine .iface _ _ _ (VR.agg' (VRL.cons ?_ (VRL.nil _)))
        exact .ptr 4 26 0 26 ⟨4,0,0,0,0,false⟩ (by rw [nglob];rfl) (Nat.zero_le _) (by decide)
    · cases hgl
  rwa [nglob] at st0
end Go.Proofs.YtdfgdpjlbcnkfaaGreatDoor.Q
