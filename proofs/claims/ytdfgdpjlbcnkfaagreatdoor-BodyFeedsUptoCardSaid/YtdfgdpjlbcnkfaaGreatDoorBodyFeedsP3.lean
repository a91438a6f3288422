/- What the law BodyFeeds needs, part 3: the runner over a plain memory, words, the functions that it reaches, each by its own contract; for the inputs that each theorem names. -/
import Derived.Test.YtdfgdpjlbcnkfaaGreatDoorBodyFeedsP2
import Derived.Laws.StructEq
import Derived.Lib.SlTrimSet
namespace Go.Proofs.YtdfgdpjlbcnkfaaGreatDoor.Q
open Go Go.Proofs.YtdfgdpjlbcnkfaaGreatDoorAbs Go.Proofs
set_option linter.unusedVariables false
set_option linter.unusedSimpArgs false
set_option maxRecDepth 100000
set_option maxHeartbeats 4000000
attribute [local irreducible] YtdfgdpjlbcnkfaaGreatDoorAbs.O YtdfgdpjlbcnkfaaGreatDoorAbs.W YtdfgdpjlbcnkfaaGreatDoorAbs.C YtdfgdpjlbcnkfaaGreatDoorAbs.OK YtdfgdpjlbcnkfaaGreatDoorAbs.OKF YtdfgdpjlbcnkfaaGreatDoorAbs.OKT YtdfgdpjlbcnkfaaGreatDoorAbs.then_ YtdfgdpjlbcnkfaaGreatDoorAbs.inBlock_ YtdfgdpjlbcnkfaaGreatDoorAbs.bodyQ YtdfgdpjlbcnkfaaGreatDoorAbs.Cont
section
variable {I:Prims} {S:St} {Q:Value→St→Prop}
def trailerF (r:PRd) (c:UInt8):PRd :=
  if r.state=7 then endsF r c
  else if r.text.length=0∧(c.toNat:Int)=13 then { r with state:=7 }
  else if 8192<IntKind.i64.wrap (r.sum+1) then { r with sum:=IntKind.i64.wrap (r.sum+1),err:=some 22 }
  else if r.text.length=0∧r.trailers.length=64 then { r with sum:=IntKind.i64.wrap (r.sum+1),err:=some 21 }
  else if (c.toNat:Int)=13∧0<Go.Lib.indexByte r.text 58 then { r with sum:=IntKind.i64.wrap (r.sum+1),state:=7 }
  else if (¬ (c.toNat:Int)=13∧0<Go.Lib.indexByte r.text 58∧valB c.toNat=true)∨(¬ (c.toNat:Int)=13∧Go.Lib.indexByte r.text 58<0∧(tokB c.toNat=true∨(c.toNat:Int)=58∧¬ r.text.length=0)) then { r with sum:=IntKind.i64.wrap (r.sum+1),text:=r.text ++ [c] }
  else { r with sum:=IntKind.i64.wrap (r.sum+1),err:=some 21 }
theorem trailer_C (h:HI I) {b m:Nat} {r:PRd} {tv lv:Value} {c:UInt8} (hR:Rd S b r tv lv m) (hs:r.text.length≤8192) (hl:r.trailers.length≤64) (hcol:r.state=7→r.text ≠ []→0≤Go.Lib.indexByte r.text 58)
    (hQ:∀ S' tv' lv' m',Rd S' b (trailerF r c) tv' lv' m'→Mv S S' b tv lv tv' lv'→Q (.tuple #[]) S') :
    C Tryz.prog I 47 #[.pointer (some ⟨b,0,some 11⟩),.int .u8 c.toNat] S Q:=by
  refine C_body (rs:=[]) (h.no 47 (by decide)) Tryz.func47 rfl rfl ok47 ?_
  obtain ⟨ta,tc,rfl⟩:=own_slice hR.text
  obtain ⟨la,lc,rfl⟩:=own_slice hR.trl
  have hb:=hR.cell;have hm:=hR.hm;have hn:=hR.hn
  simp only [CR.as,CR.cells] at hb
  obtain ⟨sz23,u24,sz5,u5,u9,u3,sz36,sz3,sz44,u37,sz34,u34,sz24,sz4,u4,sz58,u58,sz65,sz63,u63,sz42,sz26,u40,sz74,sz40,sz78,u83,sz81,sz9,sz92,sz89,u89,sz90,u90,u108,sz115,u115,sz133,u133,u138,u21,u145,u148,sz147⟩:=UF
  have e58:(Int.toNat 58).toUInt8=58:=by decide
  have hid:∀ B:Blk,Own 5 1 (S.upd b B) (.slice ta r.text.length tc) r.text.length (u8v r.text):=fun B=>own_upd hR.text hR.n1
  repeat' (first | (with_reducible first|refine W_pushC fun K hK=>?_|refine W_blockI ?_|refine W_scopeI ?_|refine W_labelI ?_|refine W_skipI ?_|refine W_retI ?_|refine W_exitI ?_|refine then_normalI ?_|refine then_retI ?_|refine then_exitI ?_|refine inBlock_normalI ?_|refine inBlock_retI ?_|refine inBlock_exitI ?_|refine inBlock_exitN (by decide) ?_) | ((with_reducible first|refine bodyQ_normal0 ?_|refine bodyQ_normal1 ?_|refine bodyQ_normal2 ?_|refine bodyQ_normal3 ?_|refine bodyQ_normal4 ?_|refine bodyQ_ret0 ?_|refine bodyQ_ret1 ?_|refine bodyQ_ret2 ?_|refine bodyQ_ret3 ?_|refine bodyQ_ret4 ?_);(try simp only [EVB,Nat.reduceEqDiff,reduceIte])) | ((with_reducible show C _ _ _ _ _ _);first|(refine ends_C h hR (by simp) hs hl (hcol (by assumption)) (fun S' tv' lv' m' h1 h2=>?_);(have hF:endsF r c=trailerF r c:=by grind [trailerF]);(rw [hF] at h1))|(refine h.idxB _ _ _ _ _ _ (hid _) ?_)|(refine Value_C (h.no 52 (by decide)) ?_)|(refine Token_C (h.no 55 (by decide)) (h.no 61 (by decide)) (h.no 65 (by decide)) h.idxS ?_)) | (with_reducible refine Cont.use (by assumption) ?_) | ((refine O_append (P:=Tryz.prog) (elem:=5) (size:=1) (bytes:=1) (n:=r.text.length) (m:=1) (xs:=u8v r.text) (ys:=[.int .u8 c.toNat]) u24 sz5 by5 ze5 ⟨by decide,by decide,rfl⟩ (by simp only [EVB,Nat.reduceEqDiff,reduceIte];exact own_push (hid _)) (by simp only [EVB,Nat.reduceEqDiff,reduceIte];exact asrc_own_lit u24 (St.get_push_self _ _) (Nat.zero_le _) rfl rfl) ⟨rfl,rfl⟩ (by omega) (fun v1 S3 hO hKp hB=>?_));(simp only [EVB,Nat.reduceEqDiff,reduceIte] at hKp hB);(have hb3:=hKp.2 b (by simp only [St.next_push,St.next_upd];omega) (by simpa using hR.n1));(rw [St.get_push_ne _ _ (by exact Nat.ne_of_lt hn),St.get_upd_self] at hb3);(replace hb:=hb3);(have hn3:=Nat.lt_of_lt_of_le (show b<S.next+1 by omega) hKp.1);(obtain ⟨a1,c1,rfl⟩:=own_slice hO)) | (with_reducible first|refine hcA ?_|refine hcB ?_) | ((with_reducible first|refine W_condG fun cA cB hcA hcB=>?_|refine W_regionI ?_|show O _ _ _ _ _ _ _ _|show OK _ _ _ _ _ _ _ _ _|show OKF _ _ _ _ _ _ _ _ _ _|show OKT _ _ _ _ _ _ _ _ _ _ _ _|show _∧_|show CG _ _ _|show CB _ _ _);simp (disch:=first|((with_reducible show isStop _=false);rfl)|((with_reducible show isP _=true);rfl)|((with_reducible show (isStop _ || isP _)=false);rfl)|assumption|(simp only [GSB,Nat.reduceEqDiff,reduceIte];done)|omega|(with_reducible decide)|(simp only [DSB,Go.Proofs.YtdfgdpjlbcnkfaaGreatDoorAbs.oneC,Nat.reduceAdd,Nat.reduceLeDiff] <;> omega)|fail) only [↓DN,↓reduceIte,UP,CGB,Int.reduceEq,Int.reduceLT,Int.reduceLE,Nat.reduceEqDiff,Nat.reduceAdd,Nat.reduceMul,Nat.reduceSub,Int.reduceToNat,Nat.reduceLeDiff,PF,isStop,isP,goInt,beq_self_eq_true,decide_true,hb,e58]) | ((with_reducible refine CB_intro (fun ht=>hcA ?_) (fun ht=>hcB ?_)) <;> (first|(simp only [Bool.true_eq_false,Bool.false_eq_true] at ht;done)|((try simp only [Bool.not_eq_true',Bool.not_eq_false'] at ht);(try simp only [ht]);(try simp only [HTN] at ht);(try (exfalso;omega))))) | ((with_reducible refine W_regionI ?_);simp only [List.append_eq,List.cons_append,List.nil_append]) | (with_reducible refine O_splitG fun cA cB hcA hcB=>?_) | (exact hQ _ _ _ _ h1 h2) | ((refine hQ _ _ _ 11 (hR.upd (trailerF r c) ?_ ?_ ?_) Mv.upd <;> grind [trailerF,CR.as,CR.cells,errW])) | ((have hF:trailerF r c = { r with sum:=IntKind.i64.wrap (r.sum+1),text:=r.text ++ [c] }:=by grind [trailerF]);obtain ⟨h1,h2⟩:=hR.text1 (r':=trailerF r c) kept_upd_push hO hKp hB (by rw [hF]) rfl (by rw [hF]);refine hQ _ _ _ _ (cast (congrArg (fun s=>Rd s _ _ _ _ _) ?_) h1) (cast (congrArg (fun s=>Mv _ s _ _ _ _ _) ?_) h2) <;> (rw [hF];simp [CR.as,CR.cells])))
end
end Go.Proofs.YtdfgdpjlbcnkfaaGreatDoor.Q
namespace Go.Proofs.YtdfgdpjlbcnkfaaGreatDoor.Q
open Go Go.Proofs.YtdfgdpjlbcnkfaaGreatDoorAbs Go.Proofs
set_option linter.unusedVariables false
set_option linter.unusedSimpArgs false
set_option maxRecDepth 100000
set_option maxHeartbeats 4000000
attribute [local irreducible] YtdfgdpjlbcnkfaaGreatDoorAbs.O YtdfgdpjlbcnkfaaGreatDoorAbs.W YtdfgdpjlbcnkfaaGreatDoorAbs.C YtdfgdpjlbcnkfaaGreatDoorAbs.OK YtdfgdpjlbcnkfaaGreatDoorAbs.OKF YtdfgdpjlbcnkfaaGreatDoorAbs.OKT YtdfgdpjlbcnkfaaGreatDoorAbs.then_ YtdfgdpjlbcnkfaaGreatDoorAbs.inBlock_ YtdfgdpjlbcnkfaaGreatDoorAbs.bodyQ YtdfgdpjlbcnkfaaGreatDoorAbs.Cont
section
variable {I:Prims} {S:St} {Q:Value→St→Prop}
theorem sizeF_as (r:PRd) (t l:Value) (c:Int):sizeF (r.as t l) c=(sizeF r c).as t l∧(sizeF r c).text=r.text∧(sizeF r c).trailers=r.trailers:=by
  refine ⟨?_,?_,?_⟩ <;> grind [sizeF,CR.as]
theorem extF_as (r:PRd) (t l:Value) (c:Int):extF (r.as t l) c=(extF r c).as t l∧(extF r c).text=r.text∧(extF r c).trailers=r.trailers:=by
  refine ⟨?_,?_,?_⟩ <;> grind [extF,CR.as]
theorem begF_as (r:PRd) (t l:Value) (c:Int):begF (r.as t l) c=(begF r c).as t l∧(begF r c).text=r.text∧(begF r c).trailers=r.trailers:=by
  refine ⟨?_,?_,?_⟩ <;> grind [begF,CR.as]
theorem mustF_as (r:PRd) (t l:Value) (c w n:Int):mustF (r.as t l) c w n=(mustF r c w n).as t l∧(mustF r c w n).text=r.text∧(mustF r c w n).trailers=r.trailers:=by
  refine ⟨?_,?_,?_⟩ <;> grind [mustF,CR.as]
def CR.reset {α β:Type} (r:CR α β):CR α β:=⟨r.most,r.len,r.state,r.err,0,0,false,0,r.text,r.sum,r.trailers⟩
def stepF (r:PRd) (c:UInt8):PRd :=
  if r.state=0 then sizeF r c.toNat else if r.state=1 then extF r c.toNat else if r.state=2 then begF r c.toNat else if r.state=4 then mustF r c.toNat 13 5
  else if r.state=5 then (mustF r c.toNat 10 0).reset else trailerF r c
theorem step_C (h:HI I) {b m:Nat} {r:PRd} {tv lv:Value} {c:UInt8} (hR:Rd S b r tv lv m) (hs:r.text.length≤8192) (hl:r.trailers.length≤64) (hcol:r.state=7→r.text ≠ []→0≤Go.Lib.indexByte r.text 58)
    (hQ:∀ S' tv' lv' m',Rd S' b (stepF r c) tv' lv' m'→Mv S S' b tv lv tv' lv'→Q (.tuple #[]) S') :
    C Tryz.prog I 35 #[.pointer (some ⟨b,0,some 11⟩),.int .u8 c.toNat] S Q:=by
  refine C_body (rs:=[]) (h.no 35 (by decide)) Tryz.func35 rfl rfl ok35 ?_
  have hc0:(0:Int)≤c.toNat:=Int.natCast_nonneg _
  have hc1:(c.toNat:Int)<256:=by have:=c.toNat_lt;omega
  have hbF:=hR.cell;have hb:=hR.cell;have hm:=hR.hm;have hn:=hR.hn
  simp only [CR.as,CR.cells] at hb
  obtain ⟨sz23,u24,sz5,u5,u9,u3,sz36,sz3,sz44,u37,sz34,u34,sz24,sz4,u4,sz58,u58,sz65,sz63,u63,sz42,sz26,u40,sz74,sz40,sz78,u83,sz81,sz9,sz92,sz89,u89,sz90,u90,u108,sz115,u115,sz133,u133,u138,u21,u145,u148,sz147⟩:=UF
  by_cases s0:r.state=0
  · rw [s0] at hb
    have hF:stepF r c=sizeF r c.toNat:=by simp [stepF,s0]
    obtain ⟨e1,e2,e3⟩:=sizeF_as r tv lv c.toNat
    repeat' (first | (with_reducible first|refine W_pushC fun K hK=>?_|refine W_blockI ?_|refine W_scopeI ?_|refine W_labelI ?_|refine W_skipI ?_|refine W_retI ?_|refine W_exitI ?_|refine then_normalI ?_|refine then_retI ?_|refine then_exitI ?_|refine inBlock_normalI ?_|refine inBlock_retI ?_|refine inBlock_exitI ?_|refine inBlock_exitN (by decide) ?_) | ((with_reducible first|refine bodyQ_normal0 ?_|refine bodyQ_normal1 ?_|refine bodyQ_normal2 ?_|refine bodyQ_normal3 ?_|refine bodyQ_normal4 ?_|refine bodyQ_ret0 ?_|refine bodyQ_ret1 ?_|refine bodyQ_ret2 ?_|refine bodyQ_ret3 ?_|refine bodyQ_ret4 ?_);(try simp only [EVB,Nat.reduceEqDiff,reduceIte])) | ((with_reducible show C _ _ _ _ _ _);first|(refine size_C (h.no 43 (by decide)) (h.no 51 (by decide)) (h.no 61 (by decide)) hc0 hc1 hbF hm hn ?_)) | (with_reducible refine Cont.use (by assumption) ?_) | (with_reducible first|refine hcA ?_|refine hcB ?_) | ((with_reducible first|refine W_condG fun cA cB hcA hcB=>?_|refine W_regionI ?_|show O _ _ _ _ _ _ _ _|show OK _ _ _ _ _ _ _ _ _|show OKF _ _ _ _ _ _ _ _ _ _|show OKT _ _ _ _ _ _ _ _ _ _ _ _|show _∧_|show CG _ _ _|show CB _ _ _);simp (disch:=first|((with_reducible show isStop _=false);rfl)|((with_reducible show isP _=true);rfl)|((with_reducible show (isStop _ || isP _)=false);rfl)|assumption|(simp only [GSB,Nat.reduceEqDiff,reduceIte];done)|omega|(with_reducible decide)|(simp only [DSB,Go.Proofs.YtdfgdpjlbcnkfaaGreatDoorAbs.oneC,Nat.reduceAdd,Nat.reduceLeDiff] <;> omega)|fail) only [↓DN,↓reduceIte,UP,CGB,Int.reduceEq,Int.reduceLT,Int.reduceLE,Nat.reduceEqDiff,Nat.reduceAdd,Nat.reduceMul,Nat.reduceSub,Int.reduceToNat,Nat.reduceLeDiff,PF,isStop,isP,goInt,beq_self_eq_true,decide_true,decide_false,hb]) | ((with_reducible refine CB_intro (fun ht=>hcA ?_) (fun ht=>hcB ?_)) <;> (first|(simp only [Bool.true_eq_false,Bool.false_eq_true] at ht;done)|((try simp only [Bool.not_eq_true',Bool.not_eq_false'] at ht);(try simp only [ht]);(try simp only [HTN] at ht);(try (exfalso;omega))))) | ((with_reducible refine W_regionI ?_);simp only [List.append_eq,List.cons_append,List.nil_append]) | (with_reducible refine O_splitG fun cA cB hcA hcB=>?_) | ((rw [e1];refine hQ _ _ _ 11 (hR.upd (stepF r c) ?_ ?_ ?_) Mv.upd <;> rw [hF] <;> assumption)))
  by_cases s1:r.state=1
  · rw [s1] at hb
    have hF:stepF r c=extF r c.toNat:=by simp [stepF,s1]
    obtain ⟨e1,e2,e3⟩:=extF_as r tv lv c.toNat
    repeat' (first | (with_reducible first|refine W_pushC fun K hK=>?_|refine W_blockI ?_|refine W_scopeI ?_|refine W_labelI ?_|refine W_skipI ?_|refine W_retI ?_|refine W_exitI ?_|refine then_normalI ?_|refine then_retI ?_|refine then_exitI ?_|refine inBlock_normalI ?_|refine inBlock_retI ?_|refine inBlock_exitI ?_|refine inBlock_exitN (by decide) ?_) | ((with_reducible first|refine bodyQ_normal0 ?_|refine bodyQ_normal1 ?_|refine bodyQ_normal2 ?_|refine bodyQ_normal3 ?_|refine bodyQ_normal4 ?_|refine bodyQ_ret0 ?_|refine bodyQ_ret1 ?_|refine bodyQ_ret2 ?_|refine bodyQ_ret3 ?_|refine bodyQ_ret4 ?_);(try simp only [EVB,Nat.reduceEqDiff,reduceIte])) | ((with_reducible show C _ _ _ _ _ _);first|(refine extension_C (h.no 44 (by decide)) (h.no 52 (by decide)) hbF hm hn ?_)) | (with_reducible refine Cont.use (by assumption) ?_) | (with_reducible first|refine hcA ?_|refine hcB ?_) | ((with_reducible first|refine W_condG fun cA cB hcA hcB=>?_|refine W_regionI ?_|show O _ _ _ _ _ _ _ _|show OK _ _ _ _ _ _ _ _ _|show OKF _ _ _ _ _ _ _ _ _ _|show OKT _ _ _ _ _ _ _ _ _ _ _ _|show _∧_|show CG _ _ _|show CB _ _ _);simp (disch:=first|((with_reducible show isStop _=false);rfl)|((with_reducible show isP _=true);rfl)|((with_reducible show (isStop _ || isP _)=false);rfl)|assumption|(simp only [GSB,Nat.reduceEqDiff,reduceIte];done)|omega|(with_reducible decide)|(simp only [DSB,Go.Proofs.YtdfgdpjlbcnkfaaGreatDoorAbs.oneC,Nat.reduceAdd,Nat.reduceLeDiff] <;> omega)|fail) only [↓DN,↓reduceIte,UP,CGB,Int.reduceEq,Int.reduceLT,Int.reduceLE,Nat.reduceEqDiff,Nat.reduceAdd,Nat.reduceMul,Nat.reduceSub,Int.reduceToNat,Nat.reduceLeDiff,PF,isStop,isP,goInt,beq_self_eq_true,decide_true,decide_false,hb]) | ((with_reducible refine CB_intro (fun ht=>hcA ?_) (fun ht=>hcB ?_)) <;> (first|(simp only [Bool.true_eq_false,Bool.false_eq_true] at ht;done)|((try simp only [Bool.not_eq_true',Bool.not_eq_false'] at ht);(try simp only [ht]);(try simp only [HTN] at ht);(try (exfalso;omega))))) | ((with_reducible refine W_regionI ?_);simp only [List.append_eq,List.cons_append,List.nil_append]) | (with_reducible refine O_splitG fun cA cB hcA hcB=>?_) | ((rw [e1];refine hQ _ _ _ 11 (hR.upd (stepF r c) ?_ ?_ ?_) Mv.upd <;> rw [hF] <;> assumption)))
  by_cases s2:r.state=2
  · rw [s2] at hb
    have hF:stepF r c=begF r c.toNat:=by simp [stepF,s2]
    obtain ⟨e1,e2,e3⟩:=begF_as r tv lv c.toNat
    repeat' (first | (with_reducible first|refine W_pushC fun K hK=>?_|refine W_blockI ?_|refine W_scopeI ?_|refine W_labelI ?_|refine W_skipI ?_|refine W_retI ?_|refine W_exitI ?_|refine then_normalI ?_|refine then_retI ?_|refine then_exitI ?_|refine inBlock_normalI ?_|refine inBlock_retI ?_|refine inBlock_exitI ?_|refine inBlock_exitN (by decide) ?_) | ((with_reducible first|refine bodyQ_normal0 ?_|refine bodyQ_normal1 ?_|refine bodyQ_normal2 ?_|refine bodyQ_normal3 ?_|refine bodyQ_normal4 ?_|refine bodyQ_ret0 ?_|refine bodyQ_ret1 ?_|refine bodyQ_ret2 ?_|refine bodyQ_ret3 ?_|refine bodyQ_ret4 ?_);(try simp only [EVB,Nat.reduceEqDiff,reduceIte])) | ((with_reducible show C _ _ _ _ _ _);first|(refine begins_C (h.no 45 (by decide)) hbF hm hn ?_)) | (with_reducible refine Cont.use (by assumption) ?_) | (with_reducible first|refine hcA ?_|refine hcB ?_) | ((with_reducible first|refine W_condG fun cA cB hcA hcB=>?_|refine W_regionI ?_|show O _ _ _ _ _ _ _ _|show OK _ _ _ _ _ _ _ _ _|show OKF _ _ _ _ _ _ _ _ _ _|show OKT _ _ _ _ _ _ _ _ _ _ _ _|show _∧_|show CG _ _ _|show CB _ _ _);simp (disch:=first|((with_reducible show isStop _=false);rfl)|((with_reducible show isP _=true);rfl)|((with_reducible show (isStop _ || isP _)=false);rfl)|assumption|(simp only [GSB,Nat.reduceEqDiff,reduceIte];done)|omega|(with_reducible decide)|(simp only [DSB,Go.Proofs.YtdfgdpjlbcnkfaaGreatDoorAbs.oneC,Nat.reduceAdd,Nat.reduceLeDiff] <;> omega)|fail) only [↓DN,↓reduceIte,UP,CGB,Int.reduceEq,Int.reduceLT,Int.reduceLE,Nat.reduceEqDiff,Nat.reduceAdd,Nat.reduceMul,Nat.reduceSub,Int.reduceToNat,Nat.reduceLeDiff,PF,isStop,isP,goInt,beq_self_eq_true,decide_true,decide_false,hb]) | ((with_reducible refine CB_intro (fun ht=>hcA ?_) (fun ht=>hcB ?_)) <;> (first|(simp only [Bool.true_eq_false,Bool.false_eq_true] at ht;done)|((try simp only [Bool.not_eq_true',Bool.not_eq_false'] at ht);(try simp only [ht]);(try simp only [HTN] at ht);(try (exfalso;omega))))) | ((with_reducible refine W_regionI ?_);simp only [List.append_eq,List.cons_append,List.nil_append]) | (with_reducible refine O_splitG fun cA cB hcA hcB=>?_) | ((rw [e1];refine hQ _ _ _ 11 (hR.upd (stepF r c) ?_ ?_ ?_) Mv.upd <;> rw [hF] <;> assumption)))
  by_cases s4:r.state=4
  · rw [s4] at hb
    have hF:stepF r c=mustF r c.toNat 13 5:=by simp [stepF,s4]
    obtain ⟨e1,e2,e3⟩:=mustF_as r tv lv c.toNat 13 5
    repeat' (first | (with_reducible first|refine W_pushC fun K hK=>?_|refine W_blockI ?_|refine W_scopeI ?_|refine W_labelI ?_|refine W_skipI ?_|refine W_retI ?_|refine W_exitI ?_|refine then_normalI ?_|refine then_retI ?_|refine then_exitI ?_|refine inBlock_normalI ?_|refine inBlock_retI ?_|refine inBlock_exitI ?_|refine inBlock_exitN (by decide) ?_) | ((with_reducible first|refine bodyQ_normal0 ?_|refine bodyQ_normal1 ?_|refine bodyQ_normal2 ?_|refine bodyQ_normal3 ?_|refine bodyQ_normal4 ?_|refine bodyQ_ret0 ?_|refine bodyQ_ret1 ?_|refine bodyQ_ret2 ?_|refine bodyQ_ret3 ?_|refine bodyQ_ret4 ?_);(try simp only [EVB,Nat.reduceEqDiff,reduceIte])) | ((with_reducible show C _ _ _ _ _ _);first|(refine must_C (h.no 46 (by decide)) hbF hm hn ?_)) | (with_reducible refine Cont.use (by assumption) ?_) | (with_reducible first|refine hcA ?_|refine hcB ?_) | ((with_reducible first|refine W_condG fun cA cB hcA hcB=>?_|refine W_regionI ?_|show O _ _ _ _ _ _ _ _|show OK _ _ _ _ _ _ _ _ _|show OKF _ _ _ _ _ _ _ _ _ _|show OKT _ _ _ _ _ _ _ _ _ _ _ _|show _∧_|show CG _ _ _|show CB _ _ _);simp (disch:=first|((with_reducible show isStop _=false);rfl)|((with_reducible show isP _=true);rfl)|((with_reducible show (isStop _ || isP _)=false);rfl)|assumption|(simp only [GSB,Nat.reduceEqDiff,reduceIte];done)|omega|(with_reducible decide)|(simp only [DSB,Go.Proofs.YtdfgdpjlbcnkfaaGreatDoorAbs.oneC,Nat.reduceAdd,Nat.reduceLeDiff] <;> omega)|fail) only [↓DN,↓reduceIte,UP,CGB,Int.reduceEq,Int.reduceLT,Int.reduceLE,Nat.reduceEqDiff,Nat.reduceAdd,Nat.reduceMul,Nat.reduceSub,Int.reduceToNat,Nat.reduceLeDiff,PF,isStop,isP,goInt,beq_self_eq_true,decide_true,decide_false,hb]) | ((with_reducible refine CB_intro (fun ht=>hcA ?_) (fun ht=>hcB ?_)) <;> (first|(simp only [Bool.true_eq_false,Bool.false_eq_true] at ht;done)|((try simp only [Bool.not_eq_true',Bool.not_eq_false'] at ht);(try simp only [ht]);(try simp only [HTN] at ht);(try (exfalso;omega))))) | ((with_reducible refine W_regionI ?_);simp only [List.append_eq,List.cons_append,List.nil_append]) | (with_reducible refine O_splitG fun cA cB hcA hcB=>?_) | ((rw [e1];refine hQ _ _ _ 11 (hR.upd (stepF r c) ?_ ?_ ?_) Mv.upd <;> rw [hF] <;> assumption)))
  by_cases s5:r.state=5
  · rw [s5] at hb
    have hF:stepF r c=(mustF r c.toNat 10 0).reset:=by simp [stepF,s5]
    obtain ⟨e1,e2,e3⟩:=mustF_as r tv lv c.toNat 10 0
    repeat' (first | (with_reducible first|refine W_pushC fun K hK=>?_|refine W_blockI ?_|refine W_scopeI ?_|refine W_labelI ?_|refine W_skipI ?_|refine W_retI ?_|refine W_exitI ?_|refine then_normalI ?_|refine then_retI ?_|refine then_exitI ?_|refine inBlock_normalI ?_|refine inBlock_retI ?_|refine inBlock_exitI ?_|refine inBlock_exitN (by decide) ?_) | ((with_reducible first|refine bodyQ_normal0 ?_|refine bodyQ_normal1 ?_|refine bodyQ_normal2 ?_|refine bodyQ_normal3 ?_|refine bodyQ_normal4 ?_|refine bodyQ_ret0 ?_|refine bodyQ_ret1 ?_|refine bodyQ_ret2 ?_|refine bodyQ_ret3 ?_|refine bodyQ_ret4 ?_);(try simp only [EVB,Nat.reduceEqDiff,reduceIte])) | ((with_reducible show C _ _ _ _ _ _);first|(refine must_C (h.no 46 (by decide)) hbF hm hn ?_;rw [e1];(generalize hr1:mustF r c.toNat 10 0=r1 at *);simp only [CR.as,CR.cells])) | (with_reducible refine Cont.use (by assumption) ?_) | (with_reducible first|refine hcA ?_|refine hcB ?_) | ((with_reducible first|refine W_condG fun cA cB hcA hcB=>?_|refine W_regionI ?_|show O _ _ _ _ _ _ _ _|show OK _ _ _ _ _ _ _ _ _|show OKF _ _ _ _ _ _ _ _ _ _|show OKT _ _ _ _ _ _ _ _ _ _ _ _|show _∧_|show CG _ _ _|show CB _ _ _);simp (disch:=first|((with_reducible show isStop _=false);rfl)|((with_reducible show isP _=true);rfl)|((with_reducible show (isStop _ || isP _)=false);rfl)|assumption|(simp only [GSB,Nat.reduceEqDiff,reduceIte];done)|omega|(with_reducible decide)|(simp only [DSB,Go.Proofs.YtdfgdpjlbcnkfaaGreatDoorAbs.oneC,Nat.reduceAdd,Nat.reduceLeDiff] <;> omega)|fail) only [↓DN,↓reduceIte,UP,CGB,Int.reduceEq,Int.reduceLT,Int.reduceLE,Nat.reduceEqDiff,Nat.reduceAdd,Nat.reduceMul,Nat.reduceSub,Int.reduceToNat,Nat.reduceLeDiff,PF,isStop,isP,goInt,beq_self_eq_true,decide_true,decide_false,hb]) | ((with_reducible refine CB_intro (fun ht=>hcA ?_) (fun ht=>hcB ?_)) <;> (first|(simp only [Bool.true_eq_false,Bool.false_eq_true] at ht;done)|((try simp only [Bool.not_eq_true',Bool.not_eq_false'] at ht);(try simp only [ht]);(try simp only [HTN] at ht);(try (exfalso;omega))))) | ((with_reducible refine W_regionI ?_);simp only [List.append_eq,List.cons_append,List.nil_append]) | (with_reducible refine O_splitG fun cA cB hcA hcB=>?_) | ((refine hQ _ _ _ 11 (hR.upd (stepF r c) ?_ ?_ ?_) Mv.upd <;> rw [hF] <;> first|exact e2|exact e3|rfl)))
  have d0:decide (r.state=0)=false:=decide_eq_false s0
  have d1:decide (r.state=1)=false:=decide_eq_false s1
  have d2:decide (r.state=2)=false:=decide_eq_false s2
  have d4:decide (r.state=4)=false:=decide_eq_false s4
  have d5:decide (r.state=5)=false:=decide_eq_false s5
  have hF:stepF r c=trailerF r c:=by simp [stepF, *]
  rw [hF] at hQ
  repeat' (first | (with_reducible first|refine W_pushC fun K hK=>?_|refine W_blockI ?_|refine W_scopeI ?_|refine W_labelI ?_|refine W_skipI ?_|refine W_retI ?_|refine W_exitI ?_|refine then_normalI ?_|refine then_retI ?_|refine then_exitI ?_|refine inBlock_normalI ?_|refine inBlock_retI ?_|refine inBlock_exitI ?_|refine inBlock_exitN (by decide) ?_) | ((with_reducible first|refine bodyQ_normal0 ?_|refine bodyQ_normal1 ?_|refine bodyQ_normal2 ?_|refine bodyQ_normal3 ?_|refine bodyQ_normal4 ?_|refine bodyQ_ret0 ?_|refine bodyQ_ret1 ?_|refine bodyQ_ret2 ?_|refine bodyQ_ret3 ?_|refine bodyQ_ret4 ?_);(try simp only [EVB,Nat.reduceEqDiff,reduceIte])) | ((with_reducible show C _ _ _ _ _ _);first|(refine trailer_C h hR hs hl hcol (fun S' tv' lv' m' h1 h2=>?_))) | (with_reducible refine Cont.use (by assumption) ?_) | (with_reducible first|refine hcA ?_|refine hcB ?_) | ((with_reducible first|refine W_condG fun cA cB hcA hcB=>?_|refine W_regionI ?_|show O _ _ _ _ _ _ _ _|show OK _ _ _ _ _ _ _ _ _|show OKF _ _ _ _ _ _ _ _ _ _|show OKT _ _ _ _ _ _ _ _ _ _ _ _|show _∧_|show CG _ _ _|show CB _ _ _);simp (disch:=first|((with_reducible show isStop _=false);rfl)|((with_reducible show isP _=true);rfl)|((with_reducible show (isStop _ || isP _)=false);rfl)|assumption|(simp only [GSB,Nat.reduceEqDiff,reduceIte];done)|omega|(with_reducible decide)|(simp only [DSB,Go.Proofs.YtdfgdpjlbcnkfaaGreatDoorAbs.oneC,Nat.reduceAdd,Nat.reduceLeDiff] <;> omega)|fail) only [↓DN,↓reduceIte,UP,CGB,Int.reduceEq,Int.reduceLT,Int.reduceLE,Nat.reduceEqDiff,Nat.reduceAdd,Nat.reduceMul,Nat.reduceSub,Int.reduceToNat,Nat.reduceLeDiff,PF,isStop,isP,goInt,beq_self_eq_true,decide_true,decide_false,hb,d0,d1,d2,d4,d5]) | ((with_reducible refine CB_intro (fun ht=>hcA ?_) (fun ht=>hcB ?_)) <;> (first|(simp only [Bool.true_eq_false,Bool.false_eq_true] at ht;done)|((try simp only [Bool.not_eq_true',Bool.not_eq_false'] at ht);(try simp only [ht]);(try simp only [HTN] at ht);(try (exfalso;omega))))) | ((with_reducible refine W_regionI ?_);simp only [List.append_eq,List.cons_append,List.nil_append]) | (with_reducible refine O_splitG fun cA cB hcA hcB=>?_) | (exact hQ _ _ _ _ h1 h2))
end
end Go.Proofs.YtdfgdpjlbcnkfaaGreatDoor.Q
namespace Go.Proofs.YtdfgdpjlbcnkfaaGreatDoor.Q
open Go Go.Proofs.YtdfgdpjlbcnkfaaGreatDoorAbs Go.Proofs
set_option linter.unusedVariables false
set_option linter.unusedSimpArgs false
set_option maxRecDepth 100000
set_option maxHeartbeats 4000000
attribute [local irreducible] YtdfgdpjlbcnkfaaGreatDoorAbs.O YtdfgdpjlbcnkfaaGreatDoorAbs.W YtdfgdpjlbcnkfaaGreatDoorAbs.C YtdfgdpjlbcnkfaaGreatDoorAbs.OK YtdfgdpjlbcnkfaaGreatDoorAbs.OKF YtdfgdpjlbcnkfaaGreatDoorAbs.OKT YtdfgdpjlbcnkfaaGreatDoorAbs.then_ YtdfgdpjlbcnkfaaGreatDoorAbs.inBlock_ YtdfgdpjlbcnkfaaGreatDoorAbs.bodyQ YtdfgdpjlbcnkfaaGreatDoorAbs.Cont
def Sl (S:St) (v:Value) (xs:List UInt8):Prop :=
  ∃ a c,v=.slice a xs.length c∧(a=none→c=0)∧(xs ≠ []→∃ b o L cs el own m,a=some ⟨b,o,some L⟩∧(c=UNK+1∨xs.length≤c∧c<UNK)∧S.get b=some ⟨cs,el,own,m⟩∧(own=true→m≤L∧o+xs.length≤L)∧(cs.drop o).take xs.length=u8v xs∧b<S.next)
def Apart (v:Value) (b:Nat) (tv lv:Value):Prop:=∀ i,blkOf v=some i→i ≠ b∧blkOf tv ≠ some i∧blkOf lv ≠ some i
section
variable {I:Prims} {S:St} {Q:Value→St→Prop}
theorem Apart.mv {S S':St} {v tv lv tv' lv':Value} {b:Nat} (h:Apart v b tv lv) (k:Mv S S' b tv lv tv' lv') (hv:∀ i,blkOf v=some i→i<S.next):Apart v b tv' lv':=fun i hi=>by
  obtain ⟨h1,h2,h3⟩:=h i hi
  have:=hv i hi
  refine ⟨h1,fun e=>?_,fun e=>?_⟩
  · rcases k.t i e with q|q
    · exact h2 q
    · omega
  · rcases k.l i e with q|q
    · exact h3 q
    · omega
theorem own_mv {el sz n b:Nat} {S S':St} {v tv lv tv' lv':Value} {xs:List Value} (h:Own el sz S v n xs) (ha:Apart v b tv lv) (k:Mv S S' b tv lv tv' lv'):Own el sz S' v n xs:=by
  refine ⟨h.1,h.2.1,?_⟩
  rcases h.2.2 with q|⟨b',m,rfl,h1,h2,h3,h4⟩
  · exact .inl q
  · obtain ⟨a1,a2,a3⟩:=ha b' rfl
    exact .inr ⟨b',m,rfl,(k.keep b' h3 a1 a2 a3).trans h1,h2,Nat.lt_of_lt_of_le h3 k.next,h4⟩
theorem sl_mv {b:Nat} {S S':St} {v tv lv tv' lv':Value} {xs:List UInt8} (h:Sl S v xs) (ha:Apart v b tv lv) (k:Mv S S' b tv lv tv' lv'):Sl S' v xs:=by
  obtain ⟨a,c,rfl,h0,h1⟩:=h
  refine ⟨a,c,rfl,h0,fun hne=>?_⟩
  obtain ⟨b',o,L,cs,el,own,m,rfl,h2,h3,h4,h5,h6⟩:=h1 hne
  obtain ⟨a1,a2,a3⟩:=ha b' rfl
  exact ⟨b',o,L,cs,el,own,m,rfl,h2,(k.keep b' h6 a1 a2 a3).trans h3,h4,h5,Nat.lt_of_lt_of_le h6 k.next⟩
theorem sl_kept {S S':St} {v:Value} {o':Option Nat} {xs:List UInt8} (h:Sl S v xs) (k:Kept S S' o') (ho:∀ i,o'=some i→blkOf v ≠ some i):Sl S' v xs:=by
  obtain ⟨a,c,rfl,h0,h1⟩:=h
  refine ⟨a,c,rfl,h0,fun hne=>?_⟩
  obtain ⟨b',o,L,cs,el,own,m,rfl,h2,h3,h4,h5,h6⟩:=h1 hne
  exact ⟨b',o,L,cs,el,own,m,rfl,h2,(k.2 b' h6 (fun e=>ho b' e rfl)).trans h3,h4,h5,Nat.lt_of_lt_of_le h6 k.1⟩
theorem Rd.kept {S S':St} {b m:Nat} {r:PRd} {tv lv:Value} {o:Option Nat} (h:Rd S b r tv lv m) (k:Kept S S' o) (ho:∀ i,o=some i→i ≠ b∧blkOf tv ≠ some i∧blkOf lv ≠ some i):Rd S' b r tv lv m :=
  ⟨(k.2 b h.hn (fun e=>(ho b e).1 rfl)).trans h.cell,h.hm,Nat.lt_of_lt_of_le h.hn k.1,h.text.kept k (by
      cases o with
      | none=>exact .inl rfl
      | some i=>exact .inr (Ne.symm (ho i rfl).2.1)),h.trl.kept k (by
      cases o with
      | none=>exact .inl rfl
      | some i=>exact .inr (Ne.symm (ho i rfl).2.2)),h.n1,h.n2,h.n3⟩
theorem Mv.kept {S S1 S2:St} {b:Nat} {tv lv tv1 lv1:Value} {o:Option Nat} (h:Mv S S1 b tv lv tv1 lv1) (k:Kept S1 S2 o) (ho:∀ i,o=some i→S.next≤i):Mv S S2 b tv lv tv1 lv1 :=
  ⟨Nat.le_trans h.next k.1,fun i h1 h2 h3 h4=>(k.2 i (Nat.lt_of_lt_of_le h1 h.next) (fun e=>by have:=ho i e;omega)).trans (h.keep i h1 h2 h3 h4),h.t,h.l⟩
structure RInv (r:PRd):Prop where
  most:0≤r.most∧r.most≤1099511627776
  len:0≤r.len∧r.len≤r.most
  st:0≤r.state∧r.state≤8
  dig:0≤r.digits∧r.digits≤16
  left:0≤r.left∧r.left<18446744073709551616
  extra:0≤r.extra∧r.extra≤257∧(r.err=none→r.extra≤256)∧(r.err=none→r.state=0→r.extra=0)
  sum:0≤r.sum∧r.sum≤8193∧(r.err=none→r.sum≤8192)
  text:(r.text.length:Int)≤r.sum
  trl:r.trailers.length≤64∧(r.err=none→r.text ≠ []→r.trailers.length<64)
  col:r.state=7→r.text ≠ []→0≤Go.Lib.indexByte r.text 58
  dat:r.state=3→0<r.left∧r.left≤r.most - r.len
def dataF (r:PRd) (k:Nat):PRd:=⟨r.most,r.len+k,if r.left - k=0 then 4 else r.state,r.err,r.digits,r.left - k,r.over,r.extra,r.text,r.sum,r.trailers⟩
def byteF (r:PRd) (c:UInt8):PRd:=if r.state=3 then dataF r 1 else stepF r c
def outF (r:PRd) (c:UInt8):List UInt8:=if r.state=3 then [c] else []
def feedF:PRd→List UInt8→Nat × List UInt8 × PRd
  | r,[]=>(0,[],r)
  | r,c :: l=>if r.err ≠ none∨r.state=8 then (0,[],r) else ((feedF (byteF r c) l).1+1,outF r c++(feedF (byteF r c) l).2.1,(feedF (byteF r c) l).2.2)
theorem nn_eq (x:Operand):binX Tryz.prog .eql 26 x (.const .nilIface) .nilIface .nilIface=some (.bool true):=by cases x <;> kernel_rfl
theorem nn_ne (x:Operand):binX Tryz.prog .neq 26 x (.const .nilIface) .nilIface .nilIface=some (.bool false):=by cases x <;> kernel_rfl
theorem ki24:kIface Tryz.prog 26=true:=by kernel_rfl
theorem dataF_add (r:PRd) (i j:Nat) (h:r.left - i ≠ 0):dataF (dataF r i) j=dataF r (i+j):=by
  simp only [dataF,if_neg h]
  congr 1
  · omega
  · simp only [Int.natCast_add,Int.sub_sub]
  · omega
theorem feed_data (r:PRd) (he:r.err=none) (hs:r.state=3):∀ (ys zs:List UInt8),ys ≠ []→(ys.length:Int)≤r.left→feedF r (ys++zs)=(ys.length+(feedF (dataF r ys.length) zs).1,ys++(feedF (dataF r ys.length) zs).2.1,(feedF (dataF r ys.length) zs).2.2)
  | [],_,h,_=>absurd rfl h
  | [c],zs,_,hl=>by
    simp only [List.singleton_append,feedF,he,hs,byteF,outF,List.length_singleton]
    rw [if_neg (by simp)]
    simp only [if_true]
    rw [Nat.add_comm]
    rfl
  | c :: d :: ys,zs,_,hl=>by
    have hl':((d :: ys).length:Int)≤(dataF r 1).left:=by simp only [dataF,List.length_cons] at hl ⊢;omega
    have h1:r.left - (1:Nat) ≠ 0:=by simp only [List.length_cons] at hl;omega
    have ih:=feed_data (dataF r 1) (by simpa [dataF] using he) (by simp only [dataF,if_neg h1];exact hs) (d :: ys) zs (by simp) hl'
    rw [List.cons_append]
    conv=>lhs;unfold feedF
    simp only [he,hs,byteF,outF,ne_eq,not_true_eq_false,false_or,if_true]
    rw [if_neg (by decide),ih,dataF_add r 1 _ h1,Nat.add_comm 1]
    simp only [List.length_cons,Prod.mk.injEq,List.cons_append,List.nil_append,and_true,true_and]
    first|omega|exact ⟨by omega,rfl⟩
theorem u64_range (n:Int):0≤IntKind.u64.wrap n∧IntKind.u64.wrap n<18446744073709551616:=by simp [IntKind.wrap,IntKind.bits,IntKind.signed];omega
theorem sizeF_inv {r:PRd} {c:Int} (hi:RInv r) (he:r.err=none) (hs:r.state=0):RInv (sizeF r c):=by
  obtain ⟨h1,h2,h3,h4,h5,h6,h7,h8,h9,h10,h11⟩:=hi
  have h6':=h6.2.2.1 he
  have h60:=h6.2.2.2 he hs
  unfold sizeF
  split
  · rename_i hc
    have hw:IntKind.i64.wrap (r.digits+1)=r.digits+1:=Go.Proofs.YtdfgdpjlbcnkfaaGreatDoorAbs.wp64 (by omega) (by omega)
    have hr:=u64_range (BitVec.ofInt IntKind.u64.bits (IntKind.u64.wrap (r.left * 2 ^ (min (4:Int).toNat IntKind.u64.bits))) ||| BitVec.ofInt IntKind.u64.bits (IntKind.u64.wrap (hexF c).1)).toNat
    exact ⟨h1,h2,h3,by simp only [hw];omega,hr,h6,h7,h8,h9,h10,fun q=>by simp only at q;omega⟩
  · split
    · exact ⟨h1,h2,h3,h4,h5,⟨h6.1,h6.2.1,fun q=>(by cases q),fun q=>(by cases q)⟩,⟨h7.1,h7.2.1,fun q=>(by cases q)⟩,h8,⟨h9.1,fun q=>(by cases q)⟩,h10,h11⟩
    · split
      · exact ⟨h1,h2,by simp,h4,h5,⟨h6.1,h6.2.1,h6.2.2.1,fun _ q=>by simp at q⟩,h7,h8,h9,fun q=>by simp at q,fun q=>by simp at q⟩
      · split
        · have hw:IntKind.i64.wrap (r.extra+1)=1:=by rw [h60];decide
          exact ⟨h1,h2,by simp,h4,h5,by simp only [hw];exact ⟨by omega,by omega,fun _=>by omega,fun _ q=>by simp at q⟩,h7,h8,h9,fun q=>by simp at q,fun q=>by simp at q⟩
        · exact ⟨h1,h2,h3,h4,h5,⟨h6.1,h6.2.1,fun q=>(by cases q),fun q=>(by cases q)⟩,⟨h7.1,h7.2.1,fun q=>(by cases q)⟩,h8,⟨h9.1,fun q=>(by cases q)⟩,h10,h11⟩
theorem extF_inv {r:PRd} {c:Int} (hi:RInv r) (he:r.err=none) (hs:r.state=1):RInv (extF r c):=by
  obtain ⟨h1,h2,h3,h4,h5,h6,h7,h8,h9,h10,h11⟩:=hi
  have h6':=h6.2.2.1 he
  have hw:IntKind.i64.wrap (r.extra+1)=r.extra+1:=Go.Proofs.YtdfgdpjlbcnkfaaGreatDoorAbs.wp64 (by omega) (by omega)
  unfold extF
  simp only [hw]
  split
  · exact ⟨h1,h2,by simp,h4,h5,⟨h6.1,h6.2.1,h6.2.2.1,fun _ q=>by simp at q⟩,h7,h8,h9,fun q=>by simp at q,fun q=>by simp at q⟩
  · split
    · exact ⟨h1,h2,h3,h4,h5,⟨by simp only;omega,by simp only;omega,fun q=>(by cases q),fun q=>(by cases q)⟩,⟨h7.1,h7.2.1,fun q=>(by cases q)⟩,h8,⟨h9.1,fun q=>(by cases q)⟩,h10,h11⟩
    · rename_i hn
      simp only [Bool.or_eq_true,decide_eq_true_eq,not_or] at hn
      exact ⟨h1,h2,h3,h4,h5,⟨by simp only;omega,by simp only;omega,fun _=>by simp only;omega,fun _ q=>by simp only at q;omega⟩,h7,h8,h9,h10,h11⟩
theorem begF_inv {r:PRd} {c:Int} (hi:RInv r) (he:r.err=none) (hs:r.state=2):RInv (begF r c):=by
  obtain ⟨h1,h2,h3,h4,h5,h6,h7,h8,h9,h10,h11⟩:=hi
  have w1:IntKind.i64.wrap (r.most - r.len)=r.most - r.len:=Go.Proofs.YtdfgdpjlbcnkfaaGreatDoorAbs.wp64 (by omega) (by omega)
  have w2:IntKind.u64.wrap (r.most - r.len)=r.most - r.len:=Go.Proofs.YtdfgdpjlbcnkfaaGreatDoorAbs.wpu64 (by omega) (by omega)
  unfold begF
  rw [w1,w2]
  split
  · exact ⟨h1,h2,h3,h4,h5,⟨h6.1,h6.2.1,fun q=>(by cases q),fun q=>(by cases q)⟩,⟨h7.1,h7.2.1,fun q=>(by cases q)⟩,h8,⟨h9.1,fun q=>(by cases q)⟩,h10,h11⟩
  · split
    · exact ⟨h1,h2,h3,h4,h5,⟨h6.1,h6.2.1,fun q=>(by cases q),fun q=>(by cases q)⟩,⟨h7.1,h7.2.1,fun q=>(by cases q)⟩,h8,⟨h9.1,fun q=>(by cases q)⟩,h10,h11⟩
    · rename_i hn
      simp only [Bool.or_eq_true,decide_eq_true_eq,not_or] at hn
      split
      · exact ⟨h1,h2,by simp,h4,h5,⟨h6.1,h6.2.1,h6.2.2.1,fun _ q=>by simp at q⟩,h7,h8,h9,fun q=>by simp at q,fun q=>by simp at q⟩
      · exact ⟨h1,h2,by simp,h4,h5,⟨h6.1,h6.2.1,h6.2.2.1,fun _ q=>by simp at q⟩,h7,h8,h9,fun q=>by simp at q,fun _=>by simp only;omega⟩
theorem mustF_inv {r:PRd} {c w n:Int} (hi:RInv r) (hn:n=5) (he:r.err=none) (hs:r.state ≠ 3):RInv (mustF r c w n):=by
  obtain ⟨h1,h2,h3,h4,h5,h6,h7,h8,h9,h10,h11⟩:=hi
  subst hn
  unfold mustF
  split
  · exact ⟨h1,h2,by simp,h4,h5,⟨h6.1,h6.2.1,h6.2.2.1,fun _ q=>by simp at q⟩,h7,h8,h9,fun q=>by simp at q,fun q=>by simp at q⟩
  · exact ⟨h1,h2,h3,h4,h5,⟨h6.1,h6.2.1,fun q=>(by cases q),fun q=>(by cases q)⟩,⟨h7.1,h7.2.1,fun q=>(by cases q)⟩,h8,⟨h9.1,fun q=>(by cases q)⟩,h10,h11⟩
theorem reset_inv {r:PRd} {c w:Int} (hi:RInv r) (he:r.err=none) (hs:r.state=5):RInv (mustF r c w 0).reset:=by
  obtain ⟨h1,h2,h3,h4,h5,h6,h7,h8,h9,h10,h11⟩:=hi
  unfold mustF
  split
  · exact ⟨h1,h2,by simp [CR.reset],by simp [CR.reset],by simp [CR.reset],by simp [CR.reset],h7,h8,h9,fun q=>by simp [CR.reset] at q,fun q=>by simp [CR.reset] at q⟩
  · exact ⟨h1,h2,h3,by simp [CR.reset],by simp [CR.reset],by simp [CR.reset],⟨h7.1,h7.2.1,fun q=>by simp [CR.reset] at q⟩,h8,⟨h9.1,fun q=>by simp [CR.reset] at q⟩,h10,fun q=>by simp [CR.reset] at q;omega⟩
theorem endsF_inv {r:PRd} {c:UInt8} (hi:RInv r) (he:r.err=none) (hs:r.state=7):RInv (endsF r c):=by
  obtain ⟨h1,h2,h3,h4,h5,h6,h7,h8,h9,h10,h11⟩:=hi
  have h7':=h7.2.2 he
  have h6':=h6.2.2.1 he
  have hw:IntKind.i64.wrap (r.sum+1)=r.sum+1:=Go.Proofs.YtdfgdpjlbcnkfaaGreatDoorAbs.wp64 (by omega) (by omega)
  unfold endsF
  simp only [hw]
  have hsum:∀ b:Bool,0≤(if r.text.length=0 then r.sum else r.sum+1)∧(if r.text.length=0 then r.sum else r.sum+1)≤8193∧(r.text.length:Int)≤(if r.text.length=0 then r.sum else r.sum+1):=by intro _;split <;> omega
  obtain ⟨s1,s2,s3⟩:=hsum true
  clear hsum
  generalize (if r.text.length=0 then r.sum else r.sum+1)=s at *
  split
  · exact ⟨h1,h2,h3,h4,h5,⟨h6.1,h6.2.1,fun q=>(by cases q),fun q=>(by cases q)⟩,⟨s1,s2,fun q=>(by cases q)⟩,s3,⟨h9.1,fun q=>(by cases q)⟩,h10,h11⟩
  · rename_i hle
    split
    · exact ⟨h1,h2,h3,h4,h5,⟨h6.1,h6.2.1,fun q=>(by cases q),fun q=>(by cases q)⟩,⟨s1,s2,fun q=>(by cases q)⟩,s3,⟨h9.1,fun q=>(by cases q)⟩,h10,h11⟩
    · split
      · exact ⟨h1,h2,by simp,h4,h5,⟨h6.1,h6.2.1,h6.2.2.1,fun _ q=>by simp at q⟩,⟨s1,s2,fun _=>by simp only;omega⟩,s3,h9,fun q=>by simp at q,fun q=>by simp at q⟩
      · rename_i hne
        have hne':r.text ≠ []:=fun e=>hne (by rw [e];rfl)
        have:=h9.2 he hne'
        exact ⟨h1,h2,by simp,h4,h5,⟨h6.1,h6.2.1,h6.2.2.1,fun _ q=>by simp at q⟩,⟨s1,s2,fun _=>by simp only;omega⟩,by simp only [List.length_nil];omega,⟨by simp;omega,fun _ q=>absurd rfl q⟩,fun q=>by simp at q,fun q=>by simp at q⟩
theorem trailerF_inv {r:PRd} {c:UInt8} (hi:RInv r) (he:r.err=none) (hs:r.state ≠ 3) (h8s:r.state ≠ 0):RInv (trailerF r c):=by
  unfold trailerF
  split
  · exact endsF_inv hi he (by assumption)
  obtain ⟨h1,h2,h3,h4,h5,h6,h7,h8,h9,h10,h11⟩:=hi
  have h7':=h7.2.2 he
  have h6':=h6.2.2.1 he
  have hw:IntKind.i64.wrap (r.sum+1)=r.sum+1:=Go.Proofs.YtdfgdpjlbcnkfaaGreatDoorAbs.wp64 (by omega) (by omega)
  simp only [hw]
  split
  · rename_i hc
    have:r.text = []:=List.length_eq_zero_iff.1 hc.1
    exact ⟨h1,h2,by simp,h4,h5,⟨h6.1,h6.2.1,h6.2.2.1,fun _ q=>by simp at q⟩,h7,h8,h9,fun _ q=>absurd this q,fun q=>by simp at q⟩
  split
  · exact ⟨h1,h2,h3,h4,h5,⟨h6.1,h6.2.1,fun q=>(by cases q),fun q=>(by cases q)⟩,⟨by simp only;omega,by simp only;omega,fun q=>(by cases q)⟩,by simp only;omega,⟨h9.1,fun q=>(by cases q)⟩,h10,h11⟩
  split
  · exact ⟨h1,h2,h3,h4,h5,⟨h6.1,h6.2.1,fun q=>(by cases q),fun q=>(by cases q)⟩,⟨by simp only;omega,by simp only;omega,fun q=>(by cases q)⟩,by simp only;omega,⟨h9.1,fun q=>(by cases q)⟩,h10,h11⟩
  rename_i hg1 hg2
  split
  · rename_i hc
    exact ⟨h1,h2,by simp,h4,h5,⟨h6.1,h6.2.1,h6.2.2.1,fun _ q=>by simp at q⟩,⟨by simp only;omega,by simp only;omega,fun _=>by simp only;omega⟩,by simp only;omega,h9,fun _ _=>by simp only;omega,fun q=>by simp at q⟩
  split
  · refine ⟨h1,h2,h3,h4,h5,⟨h6.1,h6.2.1,h6.2.2.1,fun _ q=>absurd q h8s⟩,⟨by simp only;omega,by simp only;omega,fun _=>by simp only;omega⟩,by simp;omega,⟨h9.1,fun _ _=>?_⟩,fun q=>by simp only at q;omega,fun q=>absurd q hs⟩
    by_cases e0:r.text.length=0
    · have:=h9.1
      simp only
      omega
    · exact h9.2 he fun e=>e0 (by rw [e];rfl)
  · exact ⟨h1,h2,h3,h4,h5,⟨h6.1,h6.2.1,fun q=>(by cases q),fun q=>(by cases q)⟩,⟨by simp only;omega,by simp only;omega,fun q=>(by cases q)⟩,by simp only;omega,⟨h9.1,fun q=>(by cases q)⟩,h10,h11⟩
theorem dataF_inv {r:PRd} {k:Nat} (hi:RInv r) (he:r.err=none) (hs:r.state=3) (hk:(k:Int)≤r.left):RInv (dataF r k):=by
  obtain ⟨h1,h2,h3,h4,h5,h6,h7,h8,h9,h10,h11⟩:=hi
  obtain ⟨d1,d2⟩:=h11 hs
  unfold dataF
  split
  · exact ⟨h1,by simp only;omega,by simp,h4,by simp only;omega,⟨h6.1,h6.2.1,h6.2.2.1,fun _ q=>by simp at q⟩,h7,h8,h9,fun q=>by simp at q,fun q=>by simp at q⟩
  · exact ⟨h1,by simp only;omega,h3,h4,by simp only;omega,h6,h7,h8,h9,h10,fun _=>by simp only;omega⟩
theorem stepF_inv {r:PRd} {c:UInt8} (hi:RInv r) (he:r.err=none) (hs:r.state ≠ 3):RInv (stepF r c):=by
  unfold stepF
  split
  · exact sizeF_inv hi he (by assumption)
  split
  · exact extF_inv hi he (by assumption)
  split
  · exact begF_inv hi he (by assumption)
  split
  · exact mustF_inv hi rfl he hs
  split
  · exact reset_inv hi he (by assumption)
  · exact trailerF_inv hi he hs (by assumption)
end
end Go.Proofs.YtdfgdpjlbcnkfaaGreatDoor.Q
namespace Go.Proofs.YtdfgdpjlbcnkfaaGreatDoor.Q
open Go Go.Proofs.YtdfgdpjlbcnkfaaGreatDoorAbs Go.Proofs
set_option linter.unusedVariables false
set_option linter.unusedSimpArgs false
set_option maxRecDepth 100000
set_option maxHeartbeats 4000000
attribute [local irreducible] YtdfgdpjlbcnkfaaGreatDoorAbs.O YtdfgdpjlbcnkfaaGreatDoorAbs.W YtdfgdpjlbcnkfaaGreatDoorAbs.C YtdfgdpjlbcnkfaaGreatDoorAbs.OK YtdfgdpjlbcnkfaaGreatDoorAbs.OKF YtdfgdpjlbcnkfaaGreatDoorAbs.OKT YtdfgdpjlbcnkfaaGreatDoorAbs.then_ YtdfgdpjlbcnkfaaGreatDoorAbs.inBlock_ YtdfgdpjlbcnkfaaGreatDoorAbs.bodyQ YtdfgdpjlbcnkfaaGreatDoorAbs.Cont
section
variable {I:Prims} {S:St} {Q:Value→St→Prop} {c:Int}
def rtokL:List UInt8:=[33,35,36,37,38,39,42,43,45,46,94,95,124,126]
def rtokB (c:Int):Bool:=rdigB c || (rletB c || (decide (c=96) || decide (∃ x ∈ rtokL,((x.toNat:Nat):Int)=c)))
theorem RToken_C (h1:∀ k,I k 58=none) (h2:∀ k,I k 68=none) (h3:∀ k,I k 69=none) (hQ:Q (.bool (rtokB c)) S):C Tryz.prog I 58 #[.int .u8 c] S Q:=by
  refine C_body (rs:=[.tmp 2]) h1 Tryz.func58 rfl rfl ok58 ?_
  obtain ⟨sz23,u24,sz5,u5,u9,u3,sz36,sz3,sz44,u37,sz34,u34,sz24,sz4,u4,sz58,u58,sz65,sz63,u63,sz42,sz26,u40,sz74,sz40,sz78,u83,sz81,sz9,sz92,sz89,u89,sz90,u90,u108,sz115,u115,sz133,u133,u138,u21,u145,u148,sz147⟩:=UF
  cases hd:rdigB c
  case true =>
    have hF:rtokB c=true:=by simp [rtokB,hd]
    rw [hF] at hQ
    repeat' (first | (with_reducible first|refine W_pushC fun K hK=>?_|refine W_blockI ?_|refine W_scopeI ?_|refine W_labelI ?_|refine W_skipI ?_|refine W_retI ?_|refine W_exitI ?_|refine then_normalI ?_|refine then_retI ?_|refine then_exitI ?_|refine inBlock_normalI ?_|refine inBlock_retI ?_|refine inBlock_exitI ?_|refine inBlock_exitN (by decide) ?_) | ((with_reducible first|refine bodyQ_normal0 ?_|refine bodyQ_normal1 ?_|refine bodyQ_normal2 ?_|refine bodyQ_normal3 ?_|refine bodyQ_normal4 ?_|refine bodyQ_ret0 ?_|refine bodyQ_ret1 ?_|refine bodyQ_ret2 ?_|refine bodyQ_ret3 ?_|refine bodyQ_ret4 ?_);(try simp only [EVB,Nat.reduceEqDiff,reduceIte])) | (with_reducible first|refine bodyQ_retC1 fun cR hcR=>?_|refine bodyQ_retC2 fun cR hcR=>?_|refine bodyQ_retC3 fun cR hcR=>?_|refine bodyQ_retC5 fun cR hcR=>?_) | ((with_reducible refine hcR _ ?_);(try simp only [EVB,Nat.reduceEqDiff,reduceIte])) | ((with_reducible show C _ _ _ _ _ _);first|(refine RDigit_C h2 ?_)|(refine RLetter_C h3 ?_)) | (with_reducible refine Cont.use (by assumption) ?_) | (with_reducible first|refine hcA ?_|refine hcB ?_) | ((with_reducible first|refine W_condG fun cA cB hcA hcB=>?_|refine W_regionI ?_|show O _ _ _ _ _ _ _ _|show OK _ _ _ _ _ _ _ _ _|show OKF _ _ _ _ _ _ _ _ _ _|show OKT _ _ _ _ _ _ _ _ _ _ _ _|show _∧_|show CG _ _ _|show CB _ _ _|show RL _ _);simp (disch:=first|((with_reducible show isStop _=false);rfl)|((with_reducible show isP _=true);rfl)|((with_reducible show (isStop _ || isP _)=false);rfl)|assumption|(simp only [GSB,Nat.reduceEqDiff,reduceIte];done)|omega|(with_reducible decide)|(simp only [DSB,Go.Proofs.YtdfgdpjlbcnkfaaGreatDoorAbs.oneC,Nat.reduceAdd,Nat.reduceLeDiff] <;> omega)|fail) only [↓DN,↓reduceIte,UP,CGC,Int.reduceEq,Int.reduceLT,Int.reduceLE,Nat.reduceEqDiff,Nat.reduceAdd,Nat.reduceMul,Nat.reduceSub,Int.reduceToNat,Nat.reduceLeDiff,PF,isStop,isP,goInt,beq_self_eq_true,decide_true,decide_false,Int.toNat_natCast,Int.natCast_zero,hd]) | ((with_reducible refine CB_intro (fun ht=>hcA ?_) (fun ht=>hcB ?_)) <;> (first|(simp only [Bool.true_eq_false,Bool.false_eq_true] at ht;done)|((try simp only [Bool.not_eq_true',Bool.not_eq_false'] at ht);(try simp only [ht]);(try simp only [HTN] at ht);(try (exfalso;omega))))) | ((with_reducible refine W_regionI ?_);simp only [List.append_eq,List.cons_append,List.nil_append]) | (with_reducible refine O_splitG fun cA cB hcA hcB=>?_) | (exact hQ))
  cases hl:rletB c
  case true =>
    have hF:rtokB c=true:=by simp [rtokB,hl]
    rw [hF] at hQ
    repeat' (first | (with_reducible first|refine W_pushC fun K hK=>?_|refine W_blockI ?_|refine W_scopeI ?_|refine W_labelI ?_|refine W_skipI ?_|refine W_retI ?_|refine W_exitI ?_|refine then_normalI ?_|refine then_retI ?_|refine then_exitI ?_|refine inBlock_normalI ?_|refine inBlock_retI ?_|refine inBlock_exitI ?_|refine inBlock_exitN (by decide) ?_) | ((with_reducible first|refine bodyQ_normal0 ?_|refine bodyQ_normal1 ?_|refine bodyQ_normal2 ?_|refine bodyQ_normal3 ?_|refine bodyQ_normal4 ?_|refine bodyQ_ret0 ?_|refine bodyQ_ret1 ?_|refine bodyQ_ret2 ?_|refine bodyQ_ret3 ?_|refine bodyQ_ret4 ?_);(try simp only [EVB,Nat.reduceEqDiff,reduceIte])) | (with_reducible first|refine bodyQ_retC1 fun cR hcR=>?_|refine bodyQ_retC2 fun cR hcR=>?_|refine bodyQ_retC3 fun cR hcR=>?_|refine bodyQ_retC5 fun cR hcR=>?_) | ((with_reducible refine hcR _ ?_);(try simp only [EVB,Nat.reduceEqDiff,reduceIte])) | ((with_reducible show C _ _ _ _ _ _);first|(refine RDigit_C h2 ?_)|(refine RLetter_C h3 ?_)) | (with_reducible refine Cont.use (by assumption) ?_) | (with_reducible first|refine hcA ?_|refine hcB ?_) | ((with_reducible first|refine W_condG fun cA cB hcA hcB=>?_|refine W_regionI ?_|show O _ _ _ _ _ _ _ _|show OK _ _ _ _ _ _ _ _ _|show OKF _ _ _ _ _ _ _ _ _ _|show OKT _ _ _ _ _ _ _ _ _ _ _ _|show _∧_|show CG _ _ _|show CB _ _ _|show RL _ _);simp (disch:=first|((with_reducible show isStop _=false);rfl)|((with_reducible show isP _=true);rfl)|((with_reducible show (isStop _ || isP _)=false);rfl)|assumption|(simp only [GSB,Nat.reduceEqDiff,reduceIte];done)|omega|(with_reducible decide)|(simp only [DSB,Go.Proofs.YtdfgdpjlbcnkfaaGreatDoorAbs.oneC,Nat.reduceAdd,Nat.reduceLeDiff] <;> omega)|fail) only [↓DN,↓reduceIte,UP,CGC,Int.reduceEq,Int.reduceLT,Int.reduceLE,Nat.reduceEqDiff,Nat.reduceAdd,Nat.reduceMul,Nat.reduceSub,Int.reduceToNat,Nat.reduceLeDiff,PF,isStop,isP,goInt,beq_self_eq_true,decide_true,decide_false,Int.toNat_natCast,Int.natCast_zero,hd,hl]) | ((with_reducible refine CB_intro (fun ht=>hcA ?_) (fun ht=>hcB ?_)) <;> (first|(simp only [Bool.true_eq_false,Bool.false_eq_true] at ht;done)|((try simp only [Bool.not_eq_true',Bool.not_eq_false'] at ht);(try simp only [ht]);(try simp only [HTN] at ht);(try (exfalso;omega))))) | ((with_reducible refine W_regionI ?_);simp only [List.append_eq,List.cons_append,List.nil_append]) | (with_reducible refine O_splitG fun cA cB hcA hcB=>?_) | (exact hQ))
  by_cases hc:c=96
  · have hF:rtokB c=true:=by simp [rtokB,hc]
    rw [hF] at hQ
    have d:decide (c=96)=true:=decide_eq_true hc
    repeat' (first | (with_reducible first|refine W_pushC fun K hK=>?_|refine W_blockI ?_|refine W_scopeI ?_|refine W_labelI ?_|refine W_skipI ?_|refine W_retI ?_|refine W_exitI ?_|refine then_normalI ?_|refine then_retI ?_|refine then_exitI ?_|refine inBlock_normalI ?_|refine inBlock_retI ?_|refine inBlock_exitI ?_|refine inBlock_exitN (by decide) ?_) | ((with_reducible first|refine bodyQ_normal0 ?_|refine bodyQ_normal1 ?_|refine bodyQ_normal2 ?_|refine bodyQ_normal3 ?_|refine bodyQ_normal4 ?_|refine bodyQ_ret0 ?_|refine bodyQ_ret1 ?_|refine bodyQ_ret2 ?_|refine bodyQ_ret3 ?_|refine bodyQ_ret4 ?_);(try simp only [EVB,Nat.reduceEqDiff,reduceIte])) | (with_reducible first|refine bodyQ_retC1 fun cR hcR=>?_|refine bodyQ_retC2 fun cR hcR=>?_|refine bodyQ_retC3 fun cR hcR=>?_|refine bodyQ_retC5 fun cR hcR=>?_) | ((with_reducible refine hcR _ ?_);(try simp only [EVB,Nat.reduceEqDiff,reduceIte])) | ((with_reducible show C _ _ _ _ _ _);first|(refine RDigit_C h2 ?_)|(refine RLetter_C h3 ?_)) | (with_reducible refine Cont.use (by assumption) ?_) | (with_reducible first|refine hcA ?_|refine hcB ?_) | ((with_reducible first|refine W_condG fun cA cB hcA hcB=>?_|refine W_regionI ?_|show O _ _ _ _ _ _ _ _|show OK _ _ _ _ _ _ _ _ _|show OKF _ _ _ _ _ _ _ _ _ _|show OKT _ _ _ _ _ _ _ _ _ _ _ _|show _∧_|show CG _ _ _|show CB _ _ _|show RL _ _);simp (disch:=first|((with_reducible show isStop _=false);rfl)|((with_reducible show isP _=true);rfl)|((with_reducible show (isStop _ || isP _)=false);rfl)|assumption|(simp only [GSB,Nat.reduceEqDiff,reduceIte];done)|omega|(with_reducible decide)|(simp only [DSB,Go.Proofs.YtdfgdpjlbcnkfaaGreatDoorAbs.oneC,Nat.reduceAdd,Nat.reduceLeDiff] <;> omega)|fail) only [↓DN,↓reduceIte,UP,CGC,Int.reduceEq,Int.reduceLT,Int.reduceLE,Nat.reduceEqDiff,Nat.reduceAdd,Nat.reduceMul,Nat.reduceSub,Int.reduceToNat,Nat.reduceLeDiff,PF,isStop,isP,goInt,beq_self_eq_true,decide_true,decide_false,Int.toNat_natCast,Int.natCast_zero,hd,hl,d]) | ((with_reducible refine CB_intro (fun ht=>hcA ?_) (fun ht=>hcB ?_)) <;> (first|(simp only [Bool.true_eq_false,Bool.false_eq_true] at ht;done)|((try simp only [Bool.not_eq_true',Bool.not_eq_false'] at ht);(try simp only [ht]);(try simp only [HTN] at ht);(try (exfalso;omega))))) | ((with_reducible refine W_regionI ?_);simp only [List.append_eq,List.cons_append,List.nil_append]) | (with_reducible refine O_splitG fun cA cB hcA hcB=>?_) | (exact hQ))
  have d:decide (c=96)=false:=decide_eq_false hc
  have hF:rtokB c=decide (∃ x ∈ rtokL,((x.toNat:Nat):Int)=c):=by simp [rtokB,hd,hl,hc]
  rw [hF] at hQ
  repeat' (first | (with_reducible first|refine W_pushC fun K hK=>?_|refine W_blockI ?_|refine W_scopeI ?_|refine W_labelI ?_|refine W_skipI ?_|refine W_retI ?_|refine W_exitI ?_|refine then_normalI ?_|refine then_retI ?_|refine then_exitI ?_|refine inBlock_normalI ?_|refine inBlock_retI ?_|refine inBlock_exitI ?_|refine inBlock_exitN (by decide) ?_) | ((with_reducible first|refine bodyQ_normal0 ?_|refine bodyQ_normal1 ?_|refine bodyQ_normal2 ?_|refine bodyQ_normal3 ?_|refine bodyQ_normal4 ?_|refine bodyQ_ret0 ?_|refine bodyQ_ret1 ?_|refine bodyQ_ret2 ?_|refine bodyQ_ret3 ?_|refine bodyQ_ret4 ?_);(try simp only [EVB,Nat.reduceEqDiff,reduceIte])) | (with_reducible first|refine bodyQ_retC1 fun cR hcR=>?_|refine bodyQ_retC2 fun cR hcR=>?_|refine bodyQ_retC3 fun cR hcR=>?_|refine bodyQ_retC5 fun cR hcR=>?_) | ((with_reducible refine hcR _ ?_);(try simp only [EVB,Nat.reduceEqDiff,reduceIte])) | ((with_reducible show C _ _ _ _ _ _);first|(refine RDigit_C h2 ?_)|(refine RLetter_C h3 ?_)) | (with_reducible refine Cont.use (by assumption) ?_) | (with_reducible first|refine hcA ?_|refine hcB ?_) | ((with_reducible first|refine W_condG fun cA cB hcA hcB=>?_|refine W_regionI ?_|show O _ _ _ _ _ _ _ _|show OK _ _ _ _ _ _ _ _ _|show OKF _ _ _ _ _ _ _ _ _ _|show OKT _ _ _ _ _ _ _ _ _ _ _ _|show _∧_|show CG _ _ _|show CB _ _ _|show RL _ _);simp (disch:=first|((with_reducible show isStop _=false);rfl)|((with_reducible show isP _=true);rfl)|((with_reducible show (isStop _ || isP _)=false);rfl)|assumption|(simp only [GSB,Nat.reduceEqDiff,reduceIte];done)|omega|(with_reducible decide)|(simp only [DSB,Go.Proofs.YtdfgdpjlbcnkfaaGreatDoorAbs.oneC,Nat.reduceAdd,Nat.reduceLeDiff] <;> omega)|fail) only [↓DN,↓reduceIte,UP,CGC,Int.reduceEq,Int.reduceLT,Int.reduceLE,Nat.reduceEqDiff,Nat.reduceAdd,Nat.reduceMul,Nat.reduceSub,Int.reduceToNat,Nat.reduceLeDiff,PF,isStop,isP,goInt,beq_self_eq_true,decide_true,decide_false,Int.toNat_natCast,Int.natCast_zero,hd,hl,d]) | ((with_reducible refine CB_intro (fun ht=>hcA ?_) (fun ht=>hcB ?_)) <;> (first|(simp only [Bool.true_eq_false,Bool.false_eq_true] at ht;done)|((try simp only [Bool.not_eq_true',Bool.not_eq_false'] at ht);(try simp only [ht]);(try simp only [HTN] at ht);(try (exfalso;omega))))) | ((with_reducible refine W_regionI ?_);simp only [List.append_eq,List.cons_append,List.nil_append]) | (with_reducible refine O_splitG fun cA cB hcA hcB=>?_))
  refine W_loop (fun n e S1=>∃ i:Nat,e.get 0=.int .u8 c∧e.get 3=.int .i64 i∧i≤14∧n=14 - i∧(∀ x ∈ rtokL.take i,((x.toNat:Nat):Int) ≠ c)∧S1=S) 14 ⟨0,by simp only [EVB,Nat.reduceEqDiff,reduceIte],by simp only [EVB,Nat.reduceEqDiff,reduceIte];rfl,Nat.zero_le _,rfl,by simp,rfl⟩ ?_
  rintro n e S1 ⟨i,e0,e3,hi,hn,hx,rfl⟩
  have wi:IntKind.i64.wrap ((i:Int)+1)=((i+1:Nat):Int):=by rw [Go.Proofs.YtdfgdpjlbcnkfaaGreatDoorAbs.wp64 (by omega) (by omega)];omega
  have hL:rtokL.length=14:=rfl
  by_cases hlt:i<14
  · have dlt:decide ((i:Int)<14)=true:=decide_eq_true (by omega)
    have hix:ixX Tryz.prog 9 (.string ⟨#[33,35,36,37,38,39,42,43,45,46,94,95,124,126]⟩) (.int .i64 (i:Int))=some (.int .u8 ((rtokL[i]'(by omega)).toNat:Int)):=by
      have h14:(⟨#[33,35,36,37,38,39,42,43,45,46,94,95,124,126]⟩:ByteArray).size=14:=rfl
      rw [ixX_string _ _ _ _ u9 (by omega) (by omega),Int.toNat_natCast]
      have:(⟨#[33,35,36,37,38,39,42,43,45,46,94,95,124,126]⟩:ByteArray).data.toList=rtokL:=rfl
      rw [this,List.getD_eq_getElem?_getD,List.getElem?_eq_getElem (by omega)]
      rfl
    generalize hy:rtokL[i]'(by omega)=y at hix
    by_cases he:((y.toNat:Nat):Int)=c
    · have de:decide (((y.toNat:Nat):Int)=c)=true:=decide_eq_true he
      have hT:decide (∃ x ∈ rtokL,((x.toNat:Nat):Int)=c)=true:=decide_eq_true ⟨y,by rw [← hy];exact List.getElem_mem _,he⟩
      rw [hT] at hQ
      repeat' (first | (with_reducible first|refine W_pushC fun K hK=>?_|refine W_blockI ?_|refine W_scopeI ?_|refine W_labelI ?_|refine W_skipI ?_|refine W_retI ?_|refine W_exitI ?_|refine then_normalI ?_|refine then_retI ?_|refine then_exitI ?_|refine inBlock_normalI ?_|refine inBlock_retI ?_|refine inBlock_exitI ?_|refine inBlock_exitN (by decide) ?_) | ((with_reducible first|refine bodyQ_normal0 ?_|refine bodyQ_normal1 ?_|refine bodyQ_normal2 ?_|refine bodyQ_normal3 ?_|refine bodyQ_normal4 ?_|refine bodyQ_ret0 ?_|refine bodyQ_ret1 ?_|refine bodyQ_ret2 ?_|refine bodyQ_ret3 ?_|refine bodyQ_ret4 ?_);(try simp only [EVB,Nat.reduceEqDiff,reduceIte])) | (with_reducible first|refine bodyQ_retC1 fun cR hcR=>?_|refine bodyQ_retC2 fun cR hcR=>?_|refine bodyQ_retC3 fun cR hcR=>?_|refine bodyQ_retC5 fun cR hcR=>?_) | ((with_reducible refine hcR _ ?_);(try simp only [EVB,Nat.reduceEqDiff,reduceIte])) | (with_reducible refine Cont.use (by assumption) ?_) | (with_reducible first|refine hcA ?_|refine hcB ?_) | ((with_reducible first|refine W_condG fun cA cB hcA hcB=>?_|refine W_regionI ?_|show O _ _ _ _ _ _ _ _|show OK _ _ _ _ _ _ _ _ _|show OKF _ _ _ _ _ _ _ _ _ _|show OKT _ _ _ _ _ _ _ _ _ _ _ _|show _∧_|show CG _ _ _|show CB _ _ _|show RL _ _);simp (disch:=first|((with_reducible show isStop _=false);rfl)|((with_reducible show isP _=true);rfl)|((with_reducible show (isStop _ || isP _)=false);rfl)|assumption|(simp only [GSB,Nat.reduceEqDiff,reduceIte];done)|omega|(with_reducible decide)|(simp only [DSB,Go.Proofs.YtdfgdpjlbcnkfaaGreatDoorAbs.oneC,Nat.reduceAdd,Nat.reduceLeDiff] <;> omega)|fail) only [↓DN,↓reduceIte,UP,CGC,Int.reduceEq,Int.reduceLT,Int.reduceLE,Nat.reduceEqDiff,Nat.reduceAdd,Nat.reduceMul,Nat.reduceSub,Int.reduceToNat,Nat.reduceLeDiff,PF,isStop,isP,goInt,beq_self_eq_true,decide_true,decide_false,Int.toNat_natCast,Int.natCast_zero,e0,e3,dlt,hix,de]) | ((with_reducible refine CB_intro (fun ht=>hcA ?_) (fun ht=>hcB ?_)) <;> (first|(simp only [Bool.true_eq_false,Bool.false_eq_true] at ht;done)|((try simp only [Bool.not_eq_true',Bool.not_eq_false'] at ht);(try simp only [ht]);(try simp only [HTN] at ht);(try (exfalso;omega))))) | ((with_reducible refine W_regionI ?_);simp only [List.append_eq,List.cons_append,List.nil_append]) | (with_reducible refine O_splitG fun cA cB hcA hcB=>?_) | (exact hQ))
    · have de:decide (((y.toNat:Nat):Int)=c)=false:=decide_eq_false he
      have hx':∀ x ∈ rtokL.take (i+1),((x.toNat:Nat):Int) ≠ c:=fun x hm=>by
        rw [List.take_succ_eq_append_getElem (by omega)] at hm
        rcases List.mem_append.1 hm with q|q
        · exact hx x q
        · have:x=y:=by simpa [hy] using q
          rw [this];exact he
      repeat' (first | (with_reducible first|refine W_pushC fun K hK=>?_|refine W_blockI ?_|refine W_scopeI ?_|refine W_labelI ?_|refine W_skipI ?_|refine W_retI ?_|refine W_exitI ?_|refine then_normalI ?_|refine then_retI ?_|refine then_exitI ?_|refine inBlock_normalI ?_|refine inBlock_retI ?_|refine inBlock_exitI ?_|refine inBlock_exitN (by decide) ?_) | ((with_reducible first|refine bodyQ_normal0 ?_|refine bodyQ_normal1 ?_|refine bodyQ_normal2 ?_|refine bodyQ_normal3 ?_|refine bodyQ_normal4 ?_|refine bodyQ_ret0 ?_|refine bodyQ_ret1 ?_|refine bodyQ_ret2 ?_|refine bodyQ_ret3 ?_|refine bodyQ_ret4 ?_);(try simp only [EVB,Nat.reduceEqDiff,reduceIte])) | (with_reducible first|refine bodyQ_retC1 fun cR hcR=>?_|refine bodyQ_retC2 fun cR hcR=>?_|refine bodyQ_retC3 fun cR hcR=>?_|refine bodyQ_retC5 fun cR hcR=>?_) | ((with_reducible refine hcR _ ?_);(try simp only [EVB,Nat.reduceEqDiff,reduceIte])) | (with_reducible refine Cont.use (by assumption) ?_) | (with_reducible first|refine hcA ?_|refine hcB ?_) | ((with_reducible first|refine W_condG fun cA cB hcA hcB=>?_|refine W_regionI ?_|show O _ _ _ _ _ _ _ _|show OK _ _ _ _ _ _ _ _ _|show OKF _ _ _ _ _ _ _ _ _ _|show OKT _ _ _ _ _ _ _ _ _ _ _ _|show _∧_|show CG _ _ _|show CB _ _ _|show RL _ _);simp (disch:=first|((with_reducible show isStop _=false);rfl)|((with_reducible show isP _=true);rfl)|((with_reducible show (isStop _ || isP _)=false);rfl)|assumption|(simp only [GSB,Nat.reduceEqDiff,reduceIte];done)|omega|(with_reducible decide)|(simp only [DSB,Go.Proofs.YtdfgdpjlbcnkfaaGreatDoorAbs.oneC,Nat.reduceAdd,Nat.reduceLeDiff] <;> omega)|fail) only [↓DN,↓reduceIte,UP,CGC,Int.reduceEq,Int.reduceLT,Int.reduceLE,Nat.reduceEqDiff,Nat.reduceAdd,Nat.reduceMul,Nat.reduceSub,Int.reduceToNat,Nat.reduceLeDiff,PF,isStop,isP,goInt,beq_self_eq_true,decide_true,decide_false,Int.toNat_natCast,Int.natCast_zero,e0,e3,dlt,hix,de,wi]) | ((with_reducible refine CB_intro (fun ht=>hcA ?_) (fun ht=>hcB ?_)) <;> (first|(simp only [Bool.true_eq_false,Bool.false_eq_true] at ht;done)|((try simp only [Bool.not_eq_true',Bool.not_eq_false'] at ht);(try simp only [ht]);(try simp only [HTN] at ht);(try (exfalso;omega))))) | ((with_reducible refine W_regionI ?_);simp only [List.append_eq,List.cons_append,List.nil_append]) | (with_reducible refine O_splitG fun cA cB hcA hcB=>?_) | ((refine ⟨14 - (i+1),by omega,i+1,by simp only [EVB,Nat.reduceEqDiff,reduceIte,e0],by simp only [EVB,Nat.reduceEqDiff,reduceIte],by omega,rfl,hx',rfl⟩)))
  · have dlt:decide ((i:Int)<14)=false:=decide_eq_false (by omega)
    have hT:decide (∃ x ∈ rtokL,((x.toNat:Nat):Int)=c)=false:=decide_eq_false (fun ⟨x,hm,q⟩=>hx x (by rw [List.take_of_length_le (by omega)];exact hm) q)
    rw [hT] at hQ
    repeat' (first | (with_reducible first|refine W_pushC fun K hK=>?_|refine W_blockI ?_|refine W_scopeI ?_|refine W_labelI ?_|refine W_skipI ?_|refine W_retI ?_|refine W_exitI ?_|refine then_normalI ?_|refine then_retI ?_|refine then_exitI ?_|refine inBlock_normalI ?_|refine inBlock_retI ?_|refine inBlock_exitI ?_|refine inBlock_exitN (by decide) ?_) | ((with_reducible first|refine bodyQ_normal0 ?_|refine bodyQ_normal1 ?_|refine bodyQ_normal2 ?_|refine bodyQ_normal3 ?_|refine bodyQ_normal4 ?_|refine bodyQ_ret0 ?_|refine bodyQ_ret1 ?_|refine bodyQ_ret2 ?_|refine bodyQ_ret3 ?_|refine bodyQ_ret4 ?_);(try simp only [EVB,Nat.reduceEqDiff,reduceIte])) | (with_reducible first|refine bodyQ_retC1 fun cR hcR=>?_|refine bodyQ_retC2 fun cR hcR=>?_|refine bodyQ_retC3 fun cR hcR=>?_|refine bodyQ_retC5 fun cR hcR=>?_) | ((with_reducible refine hcR _ ?_);(try simp only [EVB,Nat.reduceEqDiff,reduceIte])) | (with_reducible refine Cont.use (by assumption) ?_) | (with_reducible first|refine hcA ?_|refine hcB ?_) | ((with_reducible first|refine W_condG fun cA cB hcA hcB=>?_|refine W_regionI ?_|show O _ _ _ _ _ _ _ _|show OK _ _ _ _ _ _ _ _ _|show OKF _ _ _ _ _ _ _ _ _ _|show OKT _ _ _ _ _ _ _ _ _ _ _ _|show _∧_|show CG _ _ _|show CB _ _ _|show RL _ _);simp (disch:=first|((with_reducible show isStop _=false);rfl)|((with_reducible show isP _=true);rfl)|((with_reducible show (isStop _ || isP _)=false);rfl)|assumption|(simp only [GSB,Nat.reduceEqDiff,reduceIte];done)|omega|(with_reducible decide)|(simp only [DSB,Go.Proofs.YtdfgdpjlbcnkfaaGreatDoorAbs.oneC,Nat.reduceAdd,Nat.reduceLeDiff] <;> omega)|fail) only [↓DN,↓reduceIte,UP,CGC,Int.reduceEq,Int.reduceLT,Int.reduceLE,Nat.reduceEqDiff,Nat.reduceAdd,Nat.reduceMul,Nat.reduceSub,Int.reduceToNat,Nat.reduceLeDiff,PF,isStop,isP,goInt,beq_self_eq_true,decide_true,decide_false,Int.toNat_natCast,Int.natCast_zero,e0,e3,dlt]) | ((with_reducible refine CB_intro (fun ht=>hcA ?_) (fun ht=>hcB ?_)) <;> (first|(simp only [Bool.true_eq_false,Bool.false_eq_true] at ht;done)|((try simp only [Bool.not_eq_true',Bool.not_eq_false'] at ht);(try simp only [ht]);(try simp only [HTN] at ht);(try (exfalso;omega))))) | ((with_reducible refine W_regionI ?_);simp only [List.append_eq,List.cons_append,List.nil_append]) | (with_reducible refine O_splitG fun cA cB hcA hcB=>?_) | (exact hQ))
def rcol:List UInt8→Option Nat
  | []=>none
  | x :: l=>if x=58 then some 0 else (rcol l).map (· + 1)
def rcolF (l:List UInt8):Int:=match rcol l with|some k=>k|none=>-1
theorem rcol_take:∀ (l:List UInt8) (i:Nat),(∀ x ∈ l.take i,x ≠ 58)→rcol l=(rcol (l.drop i)).map (· + i)
  | l,0,_=>by simp
  | [],i+1,_=>by simp [rcol]
  | x :: l,i+1,h=>by
    have hx:x ≠ 58:=h x (by simp)
    rw [rcol,if_neg hx,rcol_take l i (fun y hy=>h y (by simp [hy])),List.drop_succ_cons]
    cases rcol (l.drop i) <;> simp <;> omega
theorem RColon_C (h1:∀ k,I k 56=none) {v:Value} {xs:List UInt8} (hO:Own 5 1 S v xs.length (u8v xs)) (hn:xs.length≤1099511627776) (hQ:Q (.int .i64 (rcolF xs)) S):C Tryz.prog I 56 #[v] S Q:=by
  refine C_body (rs:=[.tmp 2]) h1 Tryz.func56 rfl rfl ok56 ?_
  obtain ⟨sz23,u24,sz5,u5,u9,u3,sz36,sz3,sz44,u37,sz34,u34,sz24,sz4,u4,sz58,u58,sz65,sz63,u63,sz42,sz26,u40,sz74,sz40,sz78,u83,sz81,sz9,sz92,sz89,u89,sz90,u90,u108,sz115,u115,sz133,u133,u138,u21,u145,u148,sz147⟩:=UF
  obtain ⟨a,cp,e1⟩:=own_slice hO
  have hO':=hO
  subst e1
  repeat' (first | (with_reducible first|refine W_pushC fun K hK=>?_|refine W_blockI ?_|refine W_scopeI ?_|refine W_labelI ?_|refine W_skipI ?_|refine W_retI ?_|refine W_exitI ?_|refine then_normalI ?_|refine then_retI ?_|refine then_exitI ?_|refine inBlock_normalI ?_|refine inBlock_retI ?_|refine inBlock_exitI ?_|refine inBlock_exitN (by decide) ?_) | ((with_reducible first|refine bodyQ_normal0 ?_|refine bodyQ_normal1 ?_|refine bodyQ_normal2 ?_|refine bodyQ_normal3 ?_|refine bodyQ_normal4 ?_|refine bodyQ_ret0 ?_|refine bodyQ_ret1 ?_|refine bodyQ_ret2 ?_|refine bodyQ_ret3 ?_|refine bodyQ_ret4 ?_);(try simp only [EVB,Nat.reduceEqDiff,reduceIte])) | (with_reducible first|refine bodyQ_retC1 fun cR hcR=>?_|refine bodyQ_retC2 fun cR hcR=>?_|refine bodyQ_retC3 fun cR hcR=>?_|refine bodyQ_retC5 fun cR hcR=>?_) | ((with_reducible refine hcR _ ?_);(try simp only [EVB,Nat.reduceEqDiff,reduceIte])) | (with_reducible refine Cont.use (by assumption) ?_) | (with_reducible first|refine hcA ?_|refine hcB ?_) | ((with_reducible first|refine W_condG fun cA cB hcA hcB=>?_|refine W_regionI ?_|show O _ _ _ _ _ _ _ _|show OK _ _ _ _ _ _ _ _ _|show OKF _ _ _ _ _ _ _ _ _ _|show OKT _ _ _ _ _ _ _ _ _ _ _ _|show _∧_|show CG _ _ _|show CB _ _ _|show RL _ _);simp (disch:=first|((with_reducible show isStop _=false);rfl)|((with_reducible show isP _=true);rfl)|((with_reducible show (isStop _ || isP _)=false);rfl)|assumption|(simp only [GSB,Nat.reduceEqDiff,reduceIte];done)|omega|(with_reducible decide)|(simp only [DSB,Go.Proofs.YtdfgdpjlbcnkfaaGreatDoorAbs.oneC,Nat.reduceAdd,Nat.reduceLeDiff] <;> omega)|fail) only [↓DN,↓reduceIte,UP,CGC,Int.reduceEq,Int.reduceLT,Int.reduceLE,Nat.reduceEqDiff,Nat.reduceAdd,Nat.reduceMul,Nat.reduceSub,Int.reduceToNat,Nat.reduceLeDiff,PF,isStop,isP,goInt,beq_self_eq_true,decide_true,decide_false,Int.toNat_natCast,Int.natCast_zero]) | ((with_reducible refine CB_intro (fun ht=>hcA ?_) (fun ht=>hcB ?_)) <;> (first|(simp only [Bool.true_eq_false,Bool.false_eq_true] at ht;done)|((try simp only [Bool.not_eq_true',Bool.not_eq_false'] at ht);(try simp only [ht]);(try simp only [HTN] at ht);(try (exfalso;omega))))) | ((with_reducible refine W_regionI ?_);simp only [List.append_eq,List.cons_append,List.nil_append]) | (with_reducible refine O_splitG fun cA cB hcA hcB=>?_))
  refine W_loop (fun n e S1=>∃ i:Nat,e.get 0=.slice a xs.length cp∧e.get 3=.int .i64 i∧i≤xs.length∧n=xs.length - i∧(∀ x ∈ xs.take i,x ≠ 58)∧S1=S) xs.length ⟨0,by simp only [EVB,Nat.reduceEqDiff,reduceIte],by simp only [EVB,Nat.reduceEqDiff,reduceIte];rfl,Nat.zero_le _,rfl,by simp,rfl⟩ ?_
  rintro n e S1 ⟨i,e0,e3,hi,hn',hx,rfl⟩
  have wi:IntKind.i64.wrap ((i:Int)+1)=((i+1:Nat):Int):=by rw [Go.Proofs.YtdfgdpjlbcnkfaaGreatDoorAbs.wp64 (by omega) (by omega)];omega
  by_cases hlt:i<xs.length
  · have dlt:decide ((i:Int)<(xs.length:Int))=true:=decide_eq_true (by omega)
    obtain ⟨b1,m1,q1,g1,k1,n1⟩:=own_some hO' (by omega)
    cases q1
    have hl:(u8v xs).length=xs.length:=by simp [u8v]
    have r1:YtdfgdpjlbcnkfaaGreatDoorAbs.cellAt (S1.get b1) i (u8v xs).length=some (.int .u8 ((xs[i]).toNat:Int)):=by
      rw [g1,Go.Proofs.YtdfgdpjlbcnkfaaGreatDoorAbs.cellAt_own k1 (by omega)]
      simp [u8v,hlt]
    by_cases he:xs[i]=58
    · have de:decide ((((xs[i]).toNat:Nat):Int)=58)=true:=decide_eq_true (by rw [he];rfl)
      have hF:rcolF xs=(i:Int):=by
        rw [rcolF,rcol_take xs i hx,List.drop_eq_getElem_cons hlt,rcol,if_pos he];simp
      rw [hF] at hQ
      repeat' (first | (with_reducible first|refine W_pushC fun K hK=>?_|refine W_blockI ?_|refine W_scopeI ?_|refine W_labelI ?_|refine W_skipI ?_|refine W_retI ?_|refine W_exitI ?_|refine then_normalI ?_|refine then_retI ?_|refine then_exitI ?_|refine inBlock_normalI ?_|refine inBlock_retI ?_|refine inBlock_exitI ?_|refine inBlock_exitN (by decide) ?_) | ((with_reducible first|refine bodyQ_normal0 ?_|refine bodyQ_normal1 ?_|refine bodyQ_normal2 ?_|refine bodyQ_normal3 ?_|refine bodyQ_normal4 ?_|refine bodyQ_ret0 ?_|refine bodyQ_ret1 ?_|refine bodyQ_ret2 ?_|refine bodyQ_ret3 ?_|refine bodyQ_ret4 ?_);(try simp only [EVB,Nat.reduceEqDiff,reduceIte])) | (with_reducible first|refine bodyQ_retC1 fun cR hcR=>?_|refine bodyQ_retC2 fun cR hcR=>?_|refine bodyQ_retC3 fun cR hcR=>?_|refine bodyQ_retC5 fun cR hcR=>?_) | ((with_reducible refine hcR _ ?_);(try simp only [EVB,Nat.reduceEqDiff,reduceIte])) | (with_reducible refine Cont.use (by assumption) ?_) | (with_reducible first|refine hcA ?_|refine hcB ?_) | ((with_reducible first|refine W_condG fun cA cB hcA hcB=>?_|refine W_regionI ?_|show O _ _ _ _ _ _ _ _|show OK _ _ _ _ _ _ _ _ _|show OKF _ _ _ _ _ _ _ _ _ _|show OKT _ _ _ _ _ _ _ _ _ _ _ _|show _∧_|show CG _ _ _|show CB _ _ _|show RL _ _);simp (disch:=first|((with_reducible show isStop _=false);rfl)|((with_reducible show isP _=true);rfl)|((with_reducible show (isStop _ || isP _)=false);rfl)|assumption|(simp only [GSB,Nat.reduceEqDiff,reduceIte];done)|omega|(with_reducible decide)|(simp only [DSB,Go.Proofs.YtdfgdpjlbcnkfaaGreatDoorAbs.oneC,Nat.reduceAdd,Nat.reduceLeDiff] <;> omega)|fail) only [↓DN,↓reduceIte,UP,CGC,Int.reduceEq,Int.reduceLT,Int.reduceLE,Nat.reduceEqDiff,Nat.reduceAdd,Nat.reduceMul,Nat.reduceSub,Int.reduceToNat,Nat.reduceLeDiff,PF,isStop,isP,goInt,beq_self_eq_true,decide_true,decide_false,Int.toNat_natCast,Int.natCast_zero,e0,e3,dlt,r1,de]) | ((with_reducible refine CB_intro (fun ht=>hcA ?_) (fun ht=>hcB ?_)) <;> (first|(simp only [Bool.true_eq_false,Bool.false_eq_true] at ht;done)|((try simp only [Bool.not_eq_true',Bool.not_eq_false'] at ht);(try simp only [ht]);(try simp only [HTN] at ht);(try (exfalso;omega))))) | ((with_reducible refine W_regionI ?_);simp only [List.append_eq,List.cons_append,List.nil_append]) | (with_reducible refine O_splitG fun cA cB hcA hcB=>?_) | (exact hQ))
    · have de:decide ((((xs[i]).toNat:Nat):Int)=58)=false:=decide_eq_false (fun q=>he (UInt8.toNat.inj (show (xs[i]).toNat=58 by omega)))
      have hx':∀ x ∈ xs.take (i+1),x ≠ 58:=fun x hm=>by
        rw [List.take_succ_eq_append_getElem hlt] at hm
        rcases List.mem_append.1 hm with q|q
        · exact hx x q
        · have:x=xs[i]:=by simpa using q
          rw [this];exact he
      repeat' (first | (with_reducible first|refine W_pushC fun K hK=>?_|refine W_blockI ?_|refine W_scopeI ?_|refine W_labelI ?_|refine W_skipI ?_|refine W_retI ?_|refine W_exitI ?_|refine then_normalI ?_|refine then_retI ?_|refine then_exitI ?_|refine inBlock_normalI ?_|refine inBlock_retI ?_|refine inBlock_exitI ?_|refine inBlock_exitN (by decide) ?_) | ((with_reducible first|refine bodyQ_normal0 ?_|refine bodyQ_normal1 ?_|refine bodyQ_normal2 ?_|refine bodyQ_normal3 ?_|refine bodyQ_normal4 ?_|refine bodyQ_ret0 ?_|refine bodyQ_ret1 ?_|refine bodyQ_ret2 ?_|refine bodyQ_ret3 ?_|refine bodyQ_ret4 ?_);(try simp only [EVB,Nat.reduceEqDiff,reduceIte])) | (with_reducible first|refine bodyQ_retC1 fun cR hcR=>?_|refine bodyQ_retC2 fun cR hcR=>?_|refine bodyQ_retC3 fun cR hcR=>?_|refine bodyQ_retC5 fun cR hcR=>?_) | ((with_reducible refine hcR _ ?_);(try simp only [EVB,Nat.reduceEqDiff,reduceIte])) | (with_reducible refine Cont.use (by assumption) ?_) | (with_reducible first|refine hcA ?_|refine hcB ?_) | ((with_reducible first|refine W_condG fun cA cB hcA hcB=>?_|refine W_regionI ?_|show O _ _ _ _ _ _ _ _|show OK _ _ _ _ _ _ _ _ _|show OKF _ _ _ _ _ _ _ _ _ _|show OKT _ _ _ _ _ _ _ _ _ _ _ _|show _∧_|show CG _ _ _|show CB _ _ _|show RL _ _);simp (disch:=first|((with_reducible show isStop _=false);rfl)|((with_reducible show isP _=true);rfl)|((with_reducible show (isStop _ || isP _)=false);rfl)|assumption|(simp only [GSB,Nat.reduceEqDiff,reduceIte];done)|omega|(with_reducible decide)|(simp only [DSB,Go.Proofs.YtdfgdpjlbcnkfaaGreatDoorAbs.oneC,Nat.reduceAdd,Nat.reduceLeDiff] <;> omega)|fail) only [↓DN,↓reduceIte,UP,CGC,Int.reduceEq,Int.reduceLT,Int.reduceLE,Nat.reduceEqDiff,Nat.reduceAdd,Nat.reduceMul,Nat.reduceSub,Int.reduceToNat,Nat.reduceLeDiff,PF,isStop,isP,goInt,beq_self_eq_true,decide_true,decide_false,Int.toNat_natCast,Int.natCast_zero,e0,e3,dlt,r1,de,wi]) | ((with_reducible refine CB_intro (fun ht=>hcA ?_) (fun ht=>hcB ?_)) <;> (first|(simp only [Bool.true_eq_false,Bool.false_eq_true] at ht;done)|((try simp only [Bool.not_eq_true',Bool.not_eq_false'] at ht);(try simp only [ht]);(try simp only [HTN] at ht);(try (exfalso;omega))))) | ((with_reducible refine W_regionI ?_);simp only [List.append_eq,List.cons_append,List.nil_append]) | (with_reducible refine O_splitG fun cA cB hcA hcB=>?_) | ((refine ⟨xs.length - (i+1),by omega,i+1,by simp only [EVB,Nat.reduceEqDiff,reduceIte,e0],by simp only [EVB,Nat.reduceEqDiff,reduceIte],by omega,rfl,hx',rfl⟩)))
  · have dlt:decide ((i:Int)<(xs.length:Int))=false:=decide_eq_false (by omega)
    have hF:rcolF xs = -1:=by
      rw [rcolF,rcol_take xs i hx,List.drop_of_length_le (by omega)];rfl
    rw [hF] at hQ
    repeat' (first | (with_reducible first|refine W_pushC fun K hK=>?_|refine W_blockI ?_|refine W_scopeI ?_|refine W_labelI ?_|refine W_skipI ?_|refine W_retI ?_|refine W_exitI ?_|refine then_normalI ?_|refine then_retI ?_|refine then_exitI ?_|refine inBlock_normalI ?_|refine inBlock_retI ?_|refine inBlock_exitI ?_|refine inBlock_exitN (by decide) ?_) | ((with_reducible first|refine bodyQ_normal0 ?_|refine bodyQ_normal1 ?_|refine bodyQ_normal2 ?_|refine bodyQ_normal3 ?_|refine bodyQ_normal4 ?_|refine bodyQ_ret0 ?_|refine bodyQ_ret1 ?_|refine bodyQ_ret2 ?_|refine bodyQ_ret3 ?_|refine bodyQ_ret4 ?_);(try simp only [EVB,Nat.reduceEqDiff,reduceIte])) | (with_reducible first|refine bodyQ_retC1 fun cR hcR=>?_|refine bodyQ_retC2 fun cR hcR=>?_|refine bodyQ_retC3 fun cR hcR=>?_|refine bodyQ_retC5 fun cR hcR=>?_) | ((with_reducible refine hcR _ ?_);(try simp only [EVB,Nat.reduceEqDiff,reduceIte])) | (with_reducible refine Cont.use (by assumption) ?_) | (with_reducible first|refine hcA ?_|refine hcB ?_) | ((with_reducible first|refine W_condG fun cA cB hcA hcB=>?_|refine W_regionI ?_|show O _ _ _ _ _ _ _ _|show OK _ _ _ _ _ _ _ _ _|show OKF _ _ _ _ _ _ _ _ _ _|show OKT _ _ _ _ _ _ _ _ _ _ _ _|show _∧_|show CG _ _ _|show CB _ _ _|show RL _ _);simp (disch:=first|((with_reducible show isStop _=false);rfl)|((with_reducible show isP _=true);rfl)|((with_reducible show (isStop _ || isP _)=false);rfl)|assumption|(simp only [GSB,Nat.reduceEqDiff,reduceIte];done)|omega|(with_reducible decide)|(simp only [DSB,Go.Proofs.YtdfgdpjlbcnkfaaGreatDoorAbs.oneC,Nat.reduceAdd,Nat.reduceLeDiff] <;> omega)|fail) only [↓DN,↓reduceIte,UP,CGC,Int.reduceEq,Int.reduceLT,Int.reduceLE,Nat.reduceEqDiff,Nat.reduceAdd,Nat.reduceMul,Nat.reduceSub,Int.reduceToNat,Nat.reduceLeDiff,PF,isStop,isP,goInt,beq_self_eq_true,decide_true,decide_false,Int.toNat_natCast,Int.natCast_zero,e0,e3,dlt]) | ((with_reducible refine CB_intro (fun ht=>hcA ?_) (fun ht=>hcB ?_)) <;> (first|(simp only [Bool.true_eq_false,Bool.false_eq_true] at ht;done)|((try simp only [Bool.not_eq_true',Bool.not_eq_false'] at ht);(try simp only [ht]);(try simp only [HTN] at ht);(try (exfalso;omega))))) | ((with_reducible refine W_regionI ?_);simp only [List.append_eq,List.cons_append,List.nil_append]) | (with_reducible refine O_splitG fun cA cB hcA hcB=>?_) | (exact hQ))
end
end Go.Proofs.YtdfgdpjlbcnkfaaGreatDoor.Q
namespace Go.Proofs.YtdfgdpjlbcnkfaaGreatDoorAbs
set_option linter.unusedVariables false
set_option linter.unusedSimpArgs false
structure KpL (S S':St):Prop where
  next:S.next≤S'.next
  get:∀ i,i<S.next→(none:Option Nat) ≠ some i→S'.get i=S.get i
  low:∀ m,m≤S.low→m≤S.next→m≤S'.low
theorem KpL.kept {S S':St} (h:KpL S S'):Kept S S' none:=⟨h.next,h.get⟩
theorem KpL.refl (S:St):KpL S S:=⟨Nat.le_refl _,fun _ _ _=>rfl,fun _ h _=>h⟩
theorem KpL.trans {S S1 S2:St} (h:KpL S S1) (k:KpL S1 S2):KpL S S2:=⟨Nat.le_trans h.1 k.1,fun i hi ho=>(k.2 i (Nat.lt_of_lt_of_le hi h.1) ho).trans (h.2 i hi ho),fun m h1 h2=>k.low m (h.low m h1 h2) (Nat.le_trans h2 h.1)⟩
theorem KpL.push (S:St) (b:Blk):KpL S (S.push b):=⟨Nat.le_succ _,fun i hi _=>S.get_push_lt b hi,fun _ h _=>h⟩
theorem KpL.psh {S0 S1:St} (h:KpL S0 S1) (b:Blk):KpL S0 (S1.push b):=h.trans (KpL.push S1 b)
theorem KpL.upd {S0 S1:St} (h:KpL S0 S1) {i:Nat} (hi:S0.next≤i) (b:Blk):KpL S0 (S1.upd i b) :=
  ⟨h.1,fun j hj _=>(S1.get_upd_ne b (by omega)).trans (h.2 j hj (by simp)),fun m h1 h2=>Nat.le_min.2 ⟨h.low m h1 h2,Nat.le_trans h2 hi⟩⟩
theorem Kept.psh {S0 S1:St} (h:Kept S0 S1 none) (b:Blk):Kept S0 (S1.push b) none:=h.trans (Kept.push b none)
section
variable {P:Program} {I:Prims} {ops:Array Oper} {r:List Oper} {Q:Env→St→Prop} {e:Env} {S:St} {dst:Option Tmp} {ty:TypeId} {pos:String} {after:Array Edge}
theorem append_ownL {t tx elem size bytes n m:Nat} {z v x:Value} {xs ys:List Value} (hu:P.underlying t=some (.slice elem)) (hs:asize P elem=some size) (hb:abytes P elem=some bytes) (hz:azero P elem=some z)
    (hc:0<size∧0<bytes∧z.cells.size=size) (ho:Own elem size S v n xs) (hx:asrc P S tx size x=some (m,ys)) (hy:ys.length=m * size∧ys.all oneC=true) (hl:(3 * (n+m)+2048) * bytes≤281474976710656) :
    ∃ v' S',aappend P S t tx v x=some (v',S')∧Own elem size S' v' (n+m) (xs++ys)∧Kept S S' (blkOf v)∧(blkOf v'=blkOf v∨∃ i,S.next≤i∧blkOf v'=some i)∧∀ k,k≤S.low→(∀ b,blkOf v=some b→k≤b)→k≤S'.low:=by
  obtain ⟨h0,h1,h2⟩:=ho
  have hlen:(xs++ys).length=(n+m) * size:=by rw [List.length_append,h0,hy.1,Nat.add_mul]
  have hall:(xs++ys).all oneC=true:=by rw [List.all_append,h1,hy.2];rfl
  by_cases hm:m=0
  · subst hm
    have:ys = []:=by simpa using hy.1
    subst this
    refine ⟨v,S,?_,by simpa using ⟨h0,by simpa using h1,h2⟩,Kept.refl S _,.inl rfl,fun k h _=>h⟩
    rcases h2 with ⟨rfl,rfl⟩|⟨b,m',rfl,h2,h3,h4,h5⟩
    · simp [aappend,hu,hs,hb,hz,hc,hx]
    · simp [aappend,hu,hs,hb,hz,hc,hx]
  · rcases h2 with ⟨rfl,rfl⟩|⟨b,m',rfl,h2,h3,h4,h5⟩
    · have:xs = []:=by simpa using h0
      subst this
      simp only [Nat.zero_add] at hl hlen
      refine ⟨_,_,?_,⟨hlen.trans (by simp),by simpa using hy.2,.inr ⟨S.next,0,rfl,?_,Nat.zero_le _,?_,by omega⟩⟩,Kept.push ⟨ys,elem,true,0⟩ _,.inr ⟨S.next,Nat.le_refl _,rfl⟩,fun k h _=>h⟩
      · simp only [aappend,hu,hs,hb,hz,hc,hx,and_self,if_true,if_neg hm]
        rw [if_pos hl]
        simp
      · simpa using S.get_push_self _
      · simp
    · refine ⟨_,_,?_,⟨hlen,hall,.inr ⟨b,m',rfl,S.get_upd_self b _,?_,h4,by omega⟩⟩,⟨Nat.le_refl _,fun i hi hne=>S.get_upd_ne _ (fun e=>hne (by simp [blkOf,e]))⟩,.inl rfl,fun k h h'=>Nat.le_min.2 ⟨h,h' b rfl⟩⟩
      · simp only [aappend,hu,hs,hb,hz,hc,hx,and_self,if_true,if_neg hm,h2]
        rw [if_pos ⟨trivial,trivial,h3,by simp [h0],h4,trivial,hl⟩]
        simp [List.length_append]
      · rw [List.length_append];omega
theorem O_appendL {s x:Operand} {t tx elem size bytes n m:Nat} {z:Value} {xs ys:List Value} (hu:P.underlying t=some (.slice elem)) (hs:asize P elem=some size) (hb:abytes P elem=some bytes) (hz:azero P elem=some z)
    (hc:0<size∧0<bytes∧z.cells.size=size) (ho:Own elem size S (e.ev s) n xs) (hx:asrc P S tx size (e.ev x)=some (m,ys)) (hy:ys.length=m * size∧ys.all oneC=true) (hl:(3 * (n+m)+2048) * bytes≤281474976710656)
    (hk:∀ v' S',Own elem size S' v' (n+m) (xs++ys)→Kept S S' (blkOf (e.ev s))→(blkOf v'=blkOf (e.ev s)∨∃ i,S.next≤i∧blkOf v'=some i)→(∀ k,k≤S.low→(∀ b,blkOf (e.ev s)=some b→k≤b)→k≤S'.low)→O P I ops r [] Q (e.putO dst v') S') :
    O P I ops (⟨dst,.call ⟨.builtin .append,#[s,x],#[t,tx]⟩,ty,pos,after,none⟩ :: r) [] Q e S:=by
  obtain ⟨v',S',h1,h2,h3,h4,h5⟩:=append_ownL hu hs hb hz hc ho hx hy hl
  rw [O_step rfl]
  have:aop P e.ev ⟨dst,.call ⟨.builtin .append,#[s,x],#[t,tx]⟩,ty,pos,after,none⟩ S=some (v',S'):=by
    rw [aop_builtin]
    show alt (aappend P S t tx (e.ev s) (e.ev x)) _=_
    rw [h1,alt_some]
  rw [this]
  exact ⟨rfl,hk v' S' h2 h3 h4 h5⟩
end
end Go.Proofs.YtdfgdpjlbcnkfaaGreatDoorAbs
namespace Go.Proofs.YtdfgdpjlbcnkfaaGreatDoor.Q
open Go Go.Proofs.YtdfgdpjlbcnkfaaGreatDoorAbs Go.Proofs
set_option linter.unusedVariables false
set_option linter.unusedSimpArgs false
set_option maxRecDepth 100000
set_option maxHeartbeats 4000000
attribute [local irreducible] YtdfgdpjlbcnkfaaGreatDoorAbs.O YtdfgdpjlbcnkfaaGreatDoorAbs.W YtdfgdpjlbcnkfaaGreatDoorAbs.C YtdfgdpjlbcnkfaaGreatDoorAbs.OK YtdfgdpjlbcnkfaaGreatDoorAbs.OKF YtdfgdpjlbcnkfaaGreatDoorAbs.OKT YtdfgdpjlbcnkfaaGreatDoorAbs.then_ YtdfgdpjlbcnkfaaGreatDoorAbs.inBlock_ YtdfgdpjlbcnkfaaGreatDoorAbs.bodyQ YtdfgdpjlbcnkfaaGreatDoorAbs.Cont
section
variable {I:Prims} {S:St} {Q:Value→St→Prop}
structure RR where
  most:Int
  len:Int
  state:Int
  e:Int
  digits:Int
  size:Int
  more:Int
  line:List UInt8
  bytes:Int
  trl:List Fld
def RR.cells (r:RR) (lv tv:Value):List Value:=[.int .i64 r.most,.int .i64 r.len,.int .i64 r.state,.int .i64 r.e,.int .i64 r.digits,.int .i64 r.size,.int .i64 r.more,lv,.int .i64 r.bytes,tv]
def RR.val (r:RR) (lv tv:Value):Value:=.agg (r.cells lv tv).toArray
def RR.fail (r:RR) (c:Int):RR:={ r with state:=9,e:=c }
theorem RFail_C (h1:∀ k,I k 48=none) {r:RR} {la ta:Option Addr} {ln lc tn tc:Nat} {c:Int} (hQ:∀ S',KpL S S'→Q ((r.fail c).val (.slice la ln lc) (.slice ta tn tc)) S'):C Tryz.prog I 48 #[r.val (.slice la ln lc) (.slice ta tn tc),.int .i64 c] S Q:=by
  refine C_body (rs:=[.cell 4 42]) h1 Tryz.func48 rfl rfl ok48 ?_
  obtain ⟨sz23,u24,sz5,u5,u9,u3,sz36,sz3,sz44,u37,sz34,u34,sz24,sz4,u4,sz58,u58,sz65,sz63,u63,sz42,sz26,u40,sz74,sz40,sz78,u83,sz81,sz9,sz92,sz89,u89,sz90,u90,u108,sz115,u115,sz133,u133,u138,u21,u145,u148,sz147⟩:=UF
  simp only [RR.val,RR.cells] at hQ ⊢
  repeat' (first | (with_reducible first|refine W_pushC fun K hK=>?_|refine W_blockI ?_|refine W_scopeI ?_|refine W_labelI ?_|refine W_skipI ?_|refine W_retI ?_|refine W_exitI ?_|refine then_normalI ?_|refine then_retI ?_|refine then_exitI ?_|refine inBlock_normalI ?_|refine inBlock_retI ?_|refine inBlock_exitI ?_|refine inBlock_exitN (by decide) ?_) | ((with_reducible first|refine bodyQ_normal0 ?_|refine bodyQ_normal1 ?_|refine bodyQ_normal2 ?_|refine bodyQ_normal3 ?_|refine bodyQ_normal4 ?_|refine bodyQ_ret0 ?_|refine bodyQ_ret1 ?_|refine bodyQ_ret2 ?_|refine bodyQ_ret3 ?_|refine bodyQ_ret4 ?_);(try simp only [EVB,Nat.reduceEqDiff,reduceIte])) | (with_reducible first|refine bodyQ_retC1 fun cR hcR=>?_|refine bodyQ_retC2 fun cR hcR=>?_|refine bodyQ_retC3 fun cR hcR=>?_|refine bodyQ_retC5 fun cR hcR=>?_) | ((with_reducible refine hcR _ ?_);(try simp only [EVB,Nat.reduceEqDiff,reduceIte])) | (with_reducible refine Cont.use (by assumption) ?_) | (with_reducible first|refine hcA ?_|refine hcB ?_) | ((with_reducible first|refine W_condG fun cA cB hcA hcB=>?_|refine W_regionI ?_|show O _ _ _ _ _ _ _ _|show OK _ _ _ _ _ _ _ _ _|show OKF _ _ _ _ _ _ _ _ _ _|show OKT _ _ _ _ _ _ _ _ _ _ _ _|show _∧_|show CG _ _ _|show CB _ _ _|show RL _ _);simp (disch:=first|((with_reducible show isStop _=false);rfl)|((with_reducible show isP _=true);rfl)|((with_reducible show (isStop _ || isP _)=false);rfl)|assumption|(simp only [GSB,Nat.reduceEqDiff,reduceIte];done)|omega|(with_reducible decide)|(simp only [DSB,Go.Proofs.YtdfgdpjlbcnkfaaGreatDoorAbs.oneC,Nat.reduceAdd,Nat.reduceLeDiff] <;> omega)|fail) only [↓DN,↓reduceIte,UP,CGC,Int.reduceEq,Int.reduceLT,Int.reduceLE,Nat.reduceEqDiff,Nat.reduceAdd,Nat.reduceMul,Nat.reduceSub,Int.reduceToNat,Nat.reduceLeDiff,PF,isStop,isP,goInt,beq_self_eq_true,decide_true,decide_false,Int.toNat_natCast,Int.natCast_zero]) | ((with_reducible refine CB_intro (fun ht=>hcA ?_) (fun ht=>hcB ?_)) <;> (first|(simp only [Bool.true_eq_false,Bool.false_eq_true] at ht;done)|((try simp only [Bool.not_eq_true',Bool.not_eq_false'] at ht);(try simp only [ht]);(try simp only [HTN] at ht);(try (exfalso;omega))))) | ((with_reducible refine W_regionI ?_);simp only [List.append_eq,List.cons_append,List.nil_append]) | (with_reducible refine O_splitG fun cA cB hcA hcB=>?_) | ((exact hQ _ (by repeat' (first|exact Kept.refl _ _|exact KpL.refl _|assumption|refine Kept.psh ?_ _|refine KpL.psh ?_ _|refine Kept.upd ?_ ?_ _|refine KpL.upd ?_ ?_ _|omega|(simp only [St.next_push,St.next_upd];omega)|refine KpL.trans ?_ (by assumption)|refine Kept.trans ?_ (by assumption)|refine Kept.trans ?_ (KpL.kept (by assumption)))))))
end
end Go.Proofs.YtdfgdpjlbcnkfaaGreatDoor.Q
namespace Go.Proofs.YtdfgdpjlbcnkfaaGreatDoor.Q
open Go Go.Proofs.YtdfgdpjlbcnkfaaGreatDoorAbs Go.Proofs
set_option linter.unusedVariables false
set_option linter.unusedSimpArgs false
section
variable {I:Prims} {S:St} {Q:Value→St→Prop} {c:Int}
theorem RFail_C' (h1:∀ k,I k 48=none) {a1 a2 a3 a4 a5 a6 a7 a9:Int} {la ta:Option Addr} {ln lc tn tc:Nat} {c:Int} (hQ:∀ S',KpL S S'→Q (.agg #[.int .i64 a1,.int .i64 a2,.int .i64 9,.int .i64 c,.int .i64 a5,.int .i64 a6,.int .i64 a7,.slice la ln lc,.int .i64 a9,.slice ta tn tc]) S') :
    C Tryz.prog I 48 #[.agg #[.int .i64 a1,.int .i64 a2,.int .i64 a3,.int .i64 a4,.int .i64 a5,.int .i64 a6,.int .i64 a7,.slice la ln lc,.int .i64 a9,.slice ta tn tc],.int .i64 c] S Q :=
  RFail_C h1 (r:=⟨a1,a2,a3,a4,a5,a6,a7,[],a9,[]⟩) hQ
structure RInvR (r:RR):Prop where
  most:0≤r.most∧r.most≤1099511627776
  len:0≤r.len∧r.len≤r.most
  digits:0≤r.digits∧r.digits≤16
  size:0≤r.size∧r.size≤1125899906842624
  more:0≤r.more∧r.more≤257
  bytes:0≤r.bytes∧r.bytes≤8194
  line:(r.line.length:Int)≤r.bytes
  trl:r.trl.length≤64
def sizeR (r:RR) (c:Int):RR :=
  if r.state=2∧c=10 then
    if r.most - r.len<r.size then r.fail 33 else if r.size=0 then { r with state:=6 } else { r with state:=3 }
  else if r.state=2 then r.fail 31
  else if r.state=0∧0≤rhexF c∧r.digits<16 then { r with digits:=r.digits+1,size:=if 1125899906842624<r.size * 16+rhexF c then 1125899906842624 else r.size * 16+rhexF c }
  else if r.digits=0 then r.fail 31
  else if c=13 then { r with state:=2 }
  else if (r.state=0∧(c=59∨c=32∨c=9))∨(r.state=1∧rwordB c=true) then
    if 256<r.more+1 then { r with state:=9,e:=31,more:=r.more+1 } else { r with state:=1,more:=r.more+1 }
  else r.fail 31
theorem rhexF_range (c:Int) : -1≤rhexF c∧rhexF c≤15:=by unfold rhexF;split <;> (try split) <;> (try split) <;> omega
structure RV (S:St) (r:RR) (lv tv:Value):Prop where
  line:Own 5 1 S lv r.line.length (u8v r.line)
  trl:Own 74 2 S tv r.trl.length (fldv r.trl)
def RR.with1 (r:RR) (st e b:Int):RR:={ r with state:=st,e:=e,bytes:=b }
def trlE (r:RR) (c:Int):Option (Int × Int):=  -- the next state,the error
  if 8192<r.bytes+1∧¬ (r.line.length=0∧(r.state=7∨c=13)) then some (9,22)
  else if r.state=7 then
    if c ≠ 10 then some (9,21) else if r.line.length=0 then some (8,r.e) else none
  else if c=13 then
    if rcolF r.line<0∧r.line.length ≠ 0 then some (9,21) else some (7,r.e)
  else if (rcolF r.line<0∧c=58∧r.line.length=0)∨(rcolF r.line<0∧c ≠ 58∧rtokB c=false)∨(0≤rcolF r.line∧rwordB c=false)∨(r.line.length=0∧r.trl.length=64) then some (9,21)
  else none
def dataR (r:RR):RR:={ r with size:=r.size - 1,len:=r.len+1,state:=if r.size - 1=0 then 4 else r.state }
def crR (r:RR) (c:Int):RR:=if r.state=4 then (if c=13 then { r with state:=5 } else r.fail 31) else if c=10 then { r with state:=0,digits:=0,size:=0,more:=0 } else r.fail 31
end
end Go.Proofs.YtdfgdpjlbcnkfaaGreatDoor.Q
namespace Go.Proofs.YtdfgdpjlbcnkfaaGreatDoor.Q
open Go Go.Proofs.YtdfgdpjlbcnkfaaGreatDoorAbs Go.Proofs
set_option linter.unusedVariables false
set_option linter.unusedSimpArgs false
set_option maxRecDepth 100000
set_option maxHeartbeats 4000000
attribute [local irreducible] YtdfgdpjlbcnkfaaGreatDoorAbs.O YtdfgdpjlbcnkfaaGreatDoorAbs.W YtdfgdpjlbcnkfaaGreatDoorAbs.C YtdfgdpjlbcnkfaaGreatDoorAbs.OK YtdfgdpjlbcnkfaaGreatDoorAbs.OKF YtdfgdpjlbcnkfaaGreatDoorAbs.OKT YtdfgdpjlbcnkfaaGreatDoorAbs.then_ YtdfgdpjlbcnkfaaGreatDoorAbs.inBlock_ YtdfgdpjlbcnkfaaGreatDoorAbs.bodyQ YtdfgdpjlbcnkfaaGreatDoorAbs.Cont
section
variable {I:Prims} {S:St} {Q:Value→St→Prop}
theorem u8v_one (l:List UInt8):(u8v l).all oneC=true:=by
  rw [List.all_eq_true];intro x hx;simp only [u8v,List.mem_map] at hx;obtain ⟨_,_,rfl⟩:=hx;rfl
def FeedJ (S:St) (b:Nat) (r:PRd) (tv lv v:Value) (xs:List UInt8) (n:Nat) (e:Env) (S1:St):Prop :=
  ∃ (k:Nat) (r1:PRd) (out:List UInt8) (tv1 lv1 ov:Value) (m1:Nat),e.get 0=.pointer (some ⟨b,0,some 11⟩)∧e.get 1=v∧e.get 8=ov∧e.get 9=.int .i64 k∧k≤xs.length∧n=xs.length - k∧Rd S1 b r1 tv1 lv1 m1∧RInv r1∧Mv S S1 b tv lv tv1 lv1 ∧
    Own 5 1 S1 ov out.length (u8v out)∧(∀ i,blkOf ov=some i→S.next≤i)∧Apart ov b tv1 lv1∧out.length≤k∧feedF r xs=(k+(feedF r1 (xs.drop k)).1,out++(feedF r1 (xs.drop k)).2.1,(feedF r1 (xs.drop k)).2.2)
theorem feed_stop (r:PRd) (xs:List UInt8) (h:xs = []∨r.err ≠ none∨r.state=8):feedF r xs=(0,[],r):=by
  cases xs with
  | nil=>rfl
  | cons c l =>
    unfold feedF
    rw [if_pos (by rcases h with q|q;cases q;exact q)]
theorem Feed_C (h:HI I) {b m:Nat} {r:PRd} {tv lv v:Value} {xs:List UInt8} (hR:Rd S b r tv lv m) (hi:RInv r) (hx:Sl S v xs) (hv:Apart v b tv lv) (hvn:∀ i,blkOf v=some i→i<S.next) (hxn:xs.length≤1099511627776)
    (hQ:∀ S' tv' lv' m' ov,Rd S' b (feedF r xs).2.2 tv' lv' m'→RInv (feedF r xs).2.2→Mv S S' b tv lv tv' lv'→Own 5 1 S' ov (feedF r xs).2.1.length (u8v (feedF r xs).2.1)→(∀ i,blkOf ov=some i→S.next≤i)→Apart ov b tv' lv' →
      Q (.tuple #[.int .i64 (feedF r xs).1,ov,.bool (decide ((feedF r xs).2.2.state=8)),errW (feedF r xs).2.2.err]) S') :
    C Tryz.prog I 25 #[.pointer (some ⟨b,0,some 11⟩),v] S Q:=by
  refine C_body (rs:=[.tmp 4,.tmp 5,.tmp 6,.tmp 7]) (h.no 25 (by decide)) Tryz.func25 rfl rfl ok25 ?_
  obtain ⟨sz23,u24,sz5,u5,u9,u3,sz36,sz3,sz44,u37,sz34,u34,sz24,sz4,u4,sz58,u58,sz65,sz63,u63,sz42,sz26,u40,sz74,sz40,sz78,u83,sz81,sz9,sz92,sz89,u89,sz90,u90,u108,sz115,u115,sz133,u133,u138,u21,u145,u148,sz147⟩:=UF
  repeat' (first | (with_reducible first|refine W_pushC fun K hK=>?_|refine W_blockI ?_|refine W_scopeI ?_|refine W_labelI ?_|refine W_skipI ?_|refine W_retI ?_|refine W_exitI ?_|refine then_normalI ?_|refine then_retI ?_|refine then_exitI ?_|refine inBlock_normalI ?_|refine inBlock_retI ?_|refine inBlock_exitI ?_|refine inBlock_exitN (by decide) ?_) | ((with_reducible first|refine bodyQ_normal0 ?_|refine bodyQ_normal1 ?_|refine bodyQ_normal2 ?_|refine bodyQ_normal3 ?_|refine bodyQ_normal4 ?_|refine bodyQ_ret0 ?_|refine bodyQ_ret1 ?_|refine bodyQ_ret2 ?_|refine bodyQ_ret3 ?_|refine bodyQ_ret4 ?_);(try simp only [EVB,Nat.reduceEqDiff,reduceIte])) | (with_reducible refine Cont.use (by assumption) ?_) | (with_reducible first|refine hcA ?_|refine hcB ?_) | ((with_reducible first|refine W_condG fun cA cB hcA hcB=>?_|refine W_regionI ?_|show O _ _ _ _ _ _ _ _|show OK _ _ _ _ _ _ _ _ _|show OKF _ _ _ _ _ _ _ _ _ _|show OKT _ _ _ _ _ _ _ _ _ _ _ _|show _∧_|show CG _ _ _|show CB _ _ _);simp (disch:=first|((with_reducible show isStop _=false);rfl)|((with_reducible show isP _=true);rfl)|((with_reducible show (isStop _ || isP _)=false);rfl)|assumption|(simp only [GSB,Nat.reduceEqDiff,reduceIte];done)|omega|(with_reducible decide)|(simp only [DSB,Go.Proofs.YtdfgdpjlbcnkfaaGreatDoorAbs.oneC,Nat.reduceAdd,Nat.reduceLeDiff] <;> omega)|fail) only [↓DN,↓reduceIte,UP,CGB,Int.reduceEq,Int.reduceLT,Int.reduceLE,Nat.reduceEqDiff,Nat.reduceAdd,Nat.reduceMul,Nat.reduceSub,Int.reduceToNat,Nat.reduceLeDiff,PF,isStop,isP,goInt,beq_self_eq_true,decide_true,decide_false,Int.toNat_natCast,nn_eq,nn_ne]) | ((with_reducible refine CB_intro (fun ht=>hcA ?_) (fun ht=>hcB ?_)) <;> (first|(simp only [Bool.true_eq_false,Bool.false_eq_true] at ht;done)|((try simp only [Bool.not_eq_true',Bool.not_eq_false'] at ht);(try simp only [ht]);(try simp only [HTN] at ht);(try (exfalso;omega))))) | ((with_reducible refine W_regionI ?_);simp only [List.append_eq,List.cons_append,List.nil_append]) | (with_reducible refine O_splitG fun cA cB hcA hcB=>?_))
  refine W_loop (FeedJ S b r tv lv v xs) xs.length ⟨0,r,[],tv,lv,.slice none 0 0,m,by simp only [EVB,Nat.reduceEqDiff,reduceIte],by simp only [EVB,Nat.reduceEqDiff,reduceIte],by simp only [EVB,Nat.reduceEqDiff,reduceIte],by simp only [EVB,Nat.reduceEqDiff,reduceIte];rfl,Nat.zero_le _,by simp,hR,hi,Mv.refl,Own.nil _ _ _,by simp [blkOf],fun i hi=>by simp [blkOf] at hi,by simp,by simp⟩ ?_
  rintro n e S1 ⟨k,r1,out,tv1,lv1,ov,m1,e0,e1,e8,e9,hk,hn,hR1,hi1,hM,hO,hon,hap,hol,hF⟩
  have hx1:=sl_mv hx hv hM
  have hv1:=hv.mv hM hvn
  obtain ⟨va,vc,rfl,hv0,hvv⟩:=hx1
  have hb:=hR1.cell;have hm:=hR1.hm;have hnb:=hR1.hn
  simp only [CR.as,CR.cells] at hb
  obtain ⟨oa,oc,rfl⟩:=own_slice hO
  have wk:IntKind.i64.wrap ((xs.length:Int) - (k:Int))=((xs.length - k:Nat):Int):=by rw [Go.Proofs.YtdfgdpjlbcnkfaaGreatDoorAbs.wp64 (by omega) (by omega)];omega
  by_cases hkl:k<xs.length
  case neg =>
    have hz:=feed_stop r1 (xs.drop k) (.inl (List.drop_eq_nil_of_le (by omega)))
    rw [hz] at hF
    rw [hF] at hQ
    simp only [Nat.add_zero,List.append_nil] at hQ
    have hd:decide ((k:Int)<(xs.length:Int))=false:=decide_eq_false (by omega)
    repeat' (first | (with_reducible first|refine W_pushC fun K hK=>?_|refine W_blockI ?_|refine W_scopeI ?_|refine W_labelI ?_|refine W_skipI ?_|refine W_retI ?_|refine W_exitI ?_|refine then_normalI ?_|refine then_retI ?_|refine then_exitI ?_|refine inBlock_normalI ?_|refine inBlock_retI ?_|refine inBlock_exitI ?_|refine inBlock_exitN (by decide) ?_) | ((with_reducible first|refine bodyQ_normal0 ?_|refine bodyQ_normal1 ?_|refine bodyQ_normal2 ?_|refine bodyQ_normal3 ?_|refine bodyQ_normal4 ?_|refine bodyQ_ret0 ?_|refine bodyQ_ret1 ?_|refine bodyQ_ret2 ?_|refine bodyQ_ret3 ?_|refine bodyQ_ret4 ?_);(try simp only [EVB,Nat.reduceEqDiff,reduceIte])) | (with_reducible refine Cont.use (by assumption) ?_) | (with_reducible first|refine hcA ?_|refine hcB ?_) | ((with_reducible show W _ _ (.region _ _ true) _ _ _);first|(refine W_drawn (fl:=[true,true,true,true,true,true,true,true,true,true,true,true,true,true,true]) (by kernel_rfl) ?_)) | ((with_reducible first|refine W_condG fun cA cB hcA hcB=>?_|refine W_regionI ?_|show O _ _ _ _ _ _ _ _|show OK _ _ _ _ _ _ _ _ _|show OKF _ _ _ _ _ _ _ _ _ _|show OKT _ _ _ _ _ _ _ _ _ _ _ _|show _∧_|show CG _ _ _|show CB _ _ _);simp (disch:=first|((with_reducible show isStop _=false);rfl)|((with_reducible show isP _=true);rfl)|((with_reducible show (isStop _ || isP _)=false);rfl)|assumption|(simp only [GSB,Nat.reduceEqDiff,reduceIte];done)|omega|(with_reducible decide)|(simp only [DSB,Go.Proofs.YtdfgdpjlbcnkfaaGreatDoorAbs.oneC,Nat.reduceAdd,Nat.reduceLeDiff] <;> omega)|fail) only [↓DN,↓reduceIte,UP,CGB,Int.reduceEq,Int.reduceLT,Int.reduceLE,Nat.reduceEqDiff,Nat.reduceAdd,Nat.reduceMul,Nat.reduceSub,Int.reduceToNat,Nat.reduceLeDiff,PF,isStop,isP,goInt,beq_self_eq_true,decide_true,decide_false,Int.toNat_natCast,nn_eq,nn_ne,hb,e0,e1,e8,e9,hd]) | ((with_reducible refine CB_intro (fun ht=>hcA ?_) (fun ht=>hcB ?_)) <;> (first|(simp only [Bool.true_eq_false,Bool.false_eq_true] at ht;done)|((try simp only [Bool.not_eq_true',Bool.not_eq_false'] at ht);(try simp only [ht]);(try simp only [HTN] at ht);(try (exfalso;omega))))) | ((with_reducible refine W_regionI ?_);simp only [List.append_eq,List.cons_append,List.nil_append]) | (with_reducible refine O_splitG fun cA cB hcA hcB=>?_) | (exact hQ _ _ _ _ _ hR1 hi1 hM hO hon hap))
  have hd:decide ((k:Int)<(xs.length:Int))=true:=decide_eq_true (by omega)
  rcases he:r1.err with _|ec
  case some =>
    have hz:=feed_stop r1 (xs.drop k) (.inr (.inl (by simp [he])))
    rw [hz] at hF
    rw [hF] at hQ
    simp only [Nat.add_zero,List.append_nil] at hQ
    rw [he] at hb hQ
    simp only [errW] at hb hQ
    repeat' (first | (with_reducible first|refine W_pushC fun K hK=>?_|refine W_blockI ?_|refine W_scopeI ?_|refine W_labelI ?_|refine W_skipI ?_|refine W_retI ?_|refine W_exitI ?_|refine then_normalI ?_|refine then_retI ?_|refine then_exitI ?_|refine inBlock_normalI ?_|refine inBlock_retI ?_|refine inBlock_exitI ?_|refine inBlock_exitN (by decide) ?_) | ((with_reducible first|refine bodyQ_normal0 ?_|refine bodyQ_normal1 ?_|refine bodyQ_normal2 ?_|refine bodyQ_normal3 ?_|refine bodyQ_normal4 ?_|refine bodyQ_ret0 ?_|refine bodyQ_ret1 ?_|refine bodyQ_ret2 ?_|refine bodyQ_ret3 ?_|refine bodyQ_ret4 ?_);(try simp only [EVB,Nat.reduceEqDiff,reduceIte])) | (with_reducible refine Cont.use (by assumption) ?_) | (with_reducible first|refine hcA ?_|refine hcB ?_) | ((with_reducible show W _ _ (.region _ _ true) _ _ _);first|(refine W_drawn (fl:=[true,true,true,true,true,true,true,true,true,true,true,true,true,true,true]) (by kernel_rfl) ?_)) | ((with_reducible first|refine W_condG fun cA cB hcA hcB=>?_|refine W_regionI ?_|show O _ _ _ _ _ _ _ _|show OK _ _ _ _ _ _ _ _ _|show OKF _ _ _ _ _ _ _ _ _ _|show OKT _ _ _ _ _ _ _ _ _ _ _ _|show _∧_|show CG _ _ _|show CB _ _ _);simp (disch:=first|((with_reducible show isStop _=false);rfl)|((with_reducible show isP _=true);rfl)|((with_reducible show (isStop _ || isP _)=false);rfl)|assumption|(simp only [GSB,Nat.reduceEqDiff,reduceIte];done)|omega|(with_reducible decide)|(simp only [DSB,Go.Proofs.YtdfgdpjlbcnkfaaGreatDoorAbs.oneC,Nat.reduceAdd,Nat.reduceLeDiff] <;> omega)|fail) only [↓DN,↓reduceIte,UP,CGB,Int.reduceEq,Int.reduceLT,Int.reduceLE,Nat.reduceEqDiff,Nat.reduceAdd,Nat.reduceMul,Nat.reduceSub,Int.reduceToNat,Nat.reduceLeDiff,PF,isStop,isP,goInt,beq_self_eq_true,decide_true,decide_false,Int.toNat_natCast,nn_eq,nn_ne,hb,e0,e1,e8,e9,hd]) | ((with_reducible refine CB_intro (fun ht=>hcA ?_) (fun ht=>hcB ?_)) <;> (first|(simp only [Bool.true_eq_false,Bool.false_eq_true] at ht;done)|((try simp only [Bool.not_eq_true',Bool.not_eq_false'] at ht);(try simp only [ht]);(try simp only [HTN] at ht);(try (exfalso;omega))))) | ((with_reducible refine W_regionI ?_);simp only [List.append_eq,List.cons_append,List.nil_append]) | (with_reducible refine O_splitG fun cA cB hcA hcB=>?_) | (exact hQ _ _ _ _ _ hR1 hi1 hM hO hon hap))
  rw [he] at hb
  simp only [errW] at hb
  by_cases s8:r1.state=8
  · have hz:=feed_stop r1 (xs.drop k) (.inr (.inr s8))
    rw [hz] at hF
    rw [hF] at hQ
    simp only [Nat.add_zero,List.append_nil] at hQ
    rw [he,s8] at hQ
    simp only [errW] at hQ
    rw [s8] at hb
    repeat' (first | (with_reducible first|refine W_pushC fun K hK=>?_|refine W_blockI ?_|refine W_scopeI ?_|refine W_labelI ?_|refine W_skipI ?_|refine W_retI ?_|refine W_exitI ?_|refine then_normalI ?_|refine then_retI ?_|refine then_exitI ?_|refine inBlock_normalI ?_|refine inBlock_retI ?_|refine inBlock_exitI ?_|refine inBlock_exitN (by decide) ?_) | ((with_reducible first|refine bodyQ_normal0 ?_|refine bodyQ_normal1 ?_|refine bodyQ_normal2 ?_|refine bodyQ_normal3 ?_|refine bodyQ_normal4 ?_|refine bodyQ_ret0 ?_|refine bodyQ_ret1 ?_|refine bodyQ_ret2 ?_|refine bodyQ_ret3 ?_|refine bodyQ_ret4 ?_);(try simp only [EVB,Nat.reduceEqDiff,reduceIte])) | (with_reducible refine Cont.use (by assumption) ?_) | (with_reducible first|refine hcA ?_|refine hcB ?_) | ((with_reducible show W _ _ (.region _ _ true) _ _ _);first|(refine W_drawn (fl:=[true,true,true,true,true,true,true,true,true,true,true,true,true,true,true]) (by kernel_rfl) ?_)) | ((with_reducible first|refine W_condG fun cA cB hcA hcB=>?_|refine W_regionI ?_|show O _ _ _ _ _ _ _ _|show OK _ _ _ _ _ _ _ _ _|show OKF _ _ _ _ _ _ _ _ _ _|show OKT _ _ _ _ _ _ _ _ _ _ _ _|show _∧_|show CG _ _ _|show CB _ _ _);simp (disch:=first|((with_reducible show isStop _=false);rfl)|((with_reducible show isP _=true);rfl)|((with_reducible show (isStop _ || isP _)=false);rfl)|assumption|(simp only [GSB,Nat.reduceEqDiff,reduceIte];done)|omega|(with_reducible decide)|(simp only [DSB,Go.Proofs.YtdfgdpjlbcnkfaaGreatDoorAbs.oneC,Nat.reduceAdd,Nat.reduceLeDiff] <;> omega)|fail) only [↓DN,↓reduceIte,UP,CGB,Int.reduceEq,Int.reduceLT,Int.reduceLE,Nat.reduceEqDiff,Nat.reduceAdd,Nat.reduceMul,Nat.reduceSub,Int.reduceToNat,Nat.reduceLeDiff,PF,isStop,isP,goInt,beq_self_eq_true,decide_true,decide_false,Int.toNat_natCast,nn_eq,nn_ne,hb,e0,e1,e8,e9,hd]) | ((with_reducible refine CB_intro (fun ht=>hcA ?_) (fun ht=>hcB ?_)) <;> (first|(simp only [Bool.true_eq_false,Bool.false_eq_true] at ht;done)|((try simp only [Bool.not_eq_true',Bool.not_eq_false'] at ht);(try simp only [ht]);(try simp only [HTN] at ht);(try (exfalso;omega))))) | ((with_reducible refine W_regionI ?_);simp only [List.append_eq,List.cons_append,List.nil_append]) | (with_reducible refine O_splitG fun cA cB hcA hcB=>?_) | (exact hQ _ _ _ _ _ hR1 hi1 hM hO hon hap))
  have hne:xs ≠ []:=fun q=>by rw [q] at hkl;simp at hkl
  obtain ⟨vb,vo,vL,cs,el,own,vm,rfl,hcap,hvc,hvo,hvt,hvn1⟩:=hvv hne
  have w8:decide (r1.state=8)=false:=decide_eq_false s8
  by_cases s3:r1.state=3
  · have hd1:=hi1.dat s3
    have hl1:=hi1.left
    have hle:=hi1.len
    have hmo:=hi1.most
    rw [s3] at hb
    obtain ⟨j,hj⟩:∃ j:Nat,(if ((xs.length - k:Nat):Int)<r1.left then ((xs.length - k:Nat):Int) else r1.left)=(j:Int):=by
      split
      · exact ⟨_,rfl⟩
      · exact ⟨r1.left.toNat,by omega⟩
    have hj1:(j:Int)≤r1.left∧j≤xs.length - k∧0<j:=by split at hj <;> omega
    have w2:IntKind.u64.wrap ((xs.length - k:Nat):Int)=((xs.length - k:Nat):Int):=Go.Proofs.YtdfgdpjlbcnkfaaGreatDoorAbs.wpu64 (by omega) (by omega)
    have w3:IntKind.i64.wrap (j:Int)=(j:Int):=Go.Proofs.YtdfgdpjlbcnkfaaGreatDoorAbs.wp64 (by omega) (by omega)
    have w4:IntKind.i64.wrap ((k:Int)+(j:Int))=((k+j:Nat):Int):=by rw [Go.Proofs.YtdfgdpjlbcnkfaaGreatDoorAbs.wp64 (by omega) (by omega)];omega
    have w5:IntKind.i64.wrap (r1.len+(j:Int))=r1.len+j:=Go.Proofs.YtdfgdpjlbcnkfaaGreatDoorAbs.wp64 (by omega) (by omega)
    have w6:IntKind.u64.wrap (j:Int)=(j:Int):=Go.Proofs.YtdfgdpjlbcnkfaaGreatDoorAbs.wpu64 (by omega) (by omega)
    have w7:IntKind.u64.wrap (r1.left - (j:Int))=r1.left - j:=Go.Proofs.YtdfgdpjlbcnkfaaGreatDoorAbs.wpu64 (by omega) (by omega)
    have hkj:k+j - k=j:=by omega
    obtain ⟨c2,hsl⟩:∃ c2,aslice Tryz.prog 24 (.slice (some ⟨vb,vo,some vL⟩) xs.length vc) (some (.int .i64 (k:Int))) (some (.int .i64 ((k+j:Nat):Int))) none=some (.slice (some ⟨vb,vo+k,some vL⟩) j c2):=by
      rcases hcap with rfl|⟨q1,q2⟩
      · refine ⟨UNK+1,?_⟩
        rw [aslice_lh u24 sz5 (by omega) (by omega) (by omega)]
        simp only [Int.toNat_natCast,Nat.mul_one,hkj]
      · refine ⟨vc - k,?_⟩
        have a1:(0:Int)≤(k:Int):=Int.natCast_nonneg _
        have a2:(0:Int)≤((k+j:Nat):Int):=Int.natCast_nonneg _
        have a3:¬ UNK≤vc:=by omega
        simp only [aslice,anat,if_pos a1,if_pos a2,u24,sz5,Int.toNat_natCast]
        rw [if_pos (.inl q2),if_neg a3]
        have a4:k+j≤vc:=by omega
        simp [abounds,asub,a3,a4,hkj]
    repeat' (first | (with_reducible first|refine W_pushC fun K hK=>?_|refine W_blockI ?_|refine W_scopeI ?_|refine W_labelI ?_|refine W_skipI ?_|refine W_retI ?_|refine W_exitI ?_|refine then_normalI ?_|refine then_retI ?_|refine then_exitI ?_|refine inBlock_normalI ?_|refine inBlock_retI ?_|refine inBlock_exitI ?_|refine inBlock_exitN (by decide) ?_) | ((with_reducible first|refine bodyQ_normal0 ?_|refine bodyQ_normal1 ?_|refine bodyQ_normal2 ?_|refine bodyQ_normal3 ?_|refine bodyQ_normal4 ?_|refine bodyQ_ret0 ?_|refine bodyQ_ret1 ?_|refine bodyQ_ret2 ?_|refine bodyQ_ret3 ?_|refine bodyQ_ret4 ?_);(try simp only [EVB,Nat.reduceEqDiff,reduceIte])) | (with_reducible refine Cont.use (by assumption) ?_) | (with_reducible first|refine hcA ?_|refine hcB ?_) | ((with_reducible show W _ _ (.region _ _ true) _ _ _);first|(refine W_drawn (fl:=[true,true,true,true,true,true,true,true,true,true,true,true,true,true,true]) (by kernel_rfl) ?_)) | ((with_reducible first|refine W_condG fun cA cB hcA hcB=>?_|refine W_regionI ?_|show O _ _ _ _ _ _ _ _|show OK _ _ _ _ _ _ _ _ _|show OKF _ _ _ _ _ _ _ _ _ _|show OKT _ _ _ _ _ _ _ _ _ _ _ _|show _∧_|show CG _ _ _|show CB _ _ _);simp (disch:=first|((with_reducible show isStop _=false);rfl)|((with_reducible show isP _=true);rfl)|((with_reducible show (isStop _ || isP _)=false);rfl)|assumption|(simp only [GSB,Nat.reduceEqDiff,reduceIte];done)|omega|(with_reducible decide)|(simp only [DSB,Go.Proofs.YtdfgdpjlbcnkfaaGreatDoorAbs.oneC,Nat.reduceAdd,Nat.reduceLeDiff] <;> omega)|fail) only [↓DN,↓reduceIte,UP,CGB,Int.reduceEq,Int.reduceLT,Int.reduceLE,Nat.reduceEqDiff,Nat.reduceAdd,Nat.reduceMul,Nat.reduceSub,Int.reduceToNat,Nat.reduceLeDiff,PF,isStop,isP,goInt,beq_self_eq_true,decide_true,decide_false,Int.toNat_natCast,nn_eq,nn_ne,hb,e0,e1,e8,e9,hd,wk,hj,w2,w3,w4,w5,w6,w7,hkj,hsl]) | ((with_reducible refine CB_intro (fun ht=>hcA ?_) (fun ht=>hcB ?_)) <;> (first|(simp only [Bool.true_eq_false,Bool.false_eq_true] at ht;done)|((try simp only [Bool.not_eq_true',Bool.not_eq_false'] at ht);(try simp only [ht]);(try simp only [HTN] at ht);(try (exfalso;omega))))) | ((with_reducible refine W_regionI ?_);simp only [List.append_eq,List.cons_append,List.nil_append]) | (with_reducible refine O_splitG fun cA cB hcA hcB=>?_))
    have hsrc:asrc Tryz.prog S1 24 1 (.slice (some ⟨vb,vo+k,some vL⟩) j c2)=some (j,u8v ((xs.drop k).take j)):=by
      simp only [asrc,u24]
      rw [if_neg (by omega)]
      have:aread S1 ⟨vb,vo+k,some vL⟩ (j * 1)=some (u8v ((xs.drop k).take j)):=by
        have hlen:xs.length≤(cs.drop vo).length:=by
          have:=congrArg List.length hvt
          simp [u8v] at this ⊢
          omega
        unfold aread
        simp only [hvc]
        rw [if_pos ⟨fun q=>⟨(hvo q).1,by have:=(hvo q).2;show vo+k+j * 1≤vL;omega⟩,by simp at hlen ⊢;omega⟩]
        congr 1
        rw [Nat.mul_one,← List.drop_drop]
        have:u8v ((xs.drop k).take j)=((u8v xs).drop k).take j:=by simp [u8v,List.map_drop,List.map_take]
        rw [this,← hvt,List.drop_take,List.take_take,Nat.min_eq_left (by omega)]
      simp only [this]
      rw [if_pos (u8v_one _)]
    refine O_append (P:=Tryz.prog) (elem:=5) (size:=1) (bytes:=1) (n:=out.length) (m:=j) (xs:=u8v out) (ys:=u8v ((xs.drop k).take j)) u24 sz5 by5 ze5 ⟨by decide,by decide,rfl⟩ (by simp only [EVB,Nat.reduceEqDiff,reduceIte,e8];exact hO) (by simp only [EVB,Nat.reduceEqDiff,reduceIte];exact hsrc) ⟨by simp [u8v];omega,u8v_one _⟩ (by omega) fun ov2 S2 hO2 hKp hB=>?_
    simp only [EVB,Nat.reduceEqDiff,reduceIte,e8] at hKp hB
    have hR2:=hR1.kept hKp (fun i hi=>by obtain ⟨q1,q2,q3⟩:=hap i hi;exact ⟨q1,q2,q3⟩)
    have hb:=hR2.cell;have hnb2:=hR2.hn
    simp only [CR.as,CR.cells] at hb
    rw [s3,he] at hb
    simp only [errW] at hb
    obtain ⟨oa2,oc2,rfl⟩:=own_slice hO2
    repeat' (first | (with_reducible first|refine W_pushC fun K hK=>?_|refine W_blockI ?_|refine W_scopeI ?_|refine W_labelI ?_|refine W_skipI ?_|refine W_retI ?_|refine W_exitI ?_|refine then_normalI ?_|refine then_retI ?_|refine then_exitI ?_|refine inBlock_normalI ?_|refine inBlock_retI ?_|refine inBlock_exitI ?_|refine inBlock_exitN (by decide) ?_) | ((with_reducible first|refine bodyQ_normal0 ?_|refine bodyQ_normal1 ?_|refine bodyQ_normal2 ?_|refine bodyQ_normal3 ?_|refine bodyQ_normal4 ?_|refine bodyQ_ret0 ?_|refine bodyQ_ret1 ?_|refine bodyQ_ret2 ?_|refine bodyQ_ret3 ?_|refine bodyQ_ret4 ?_);(try simp only [EVB,Nat.reduceEqDiff,reduceIte])) | (with_reducible refine Cont.use (by assumption) ?_) | (with_reducible first|refine hcA ?_|refine hcB ?_) | ((with_reducible show W _ _ (.region _ _ true) _ _ _);first|(refine W_drawn (fl:=[true,true,true,true,true,true,true,true,true,true,true,true,true,true,true]) (by kernel_rfl) ?_)) | ((with_reducible first|refine W_condG fun cA cB hcA hcB=>?_|refine W_regionI ?_|show O _ _ _ _ _ _ _ _|show OK _ _ _ _ _ _ _ _ _|show OKF _ _ _ _ _ _ _ _ _ _|show OKT _ _ _ _ _ _ _ _ _ _ _ _|show _∧_|show CG _ _ _|show CB _ _ _);simp (disch:=first|((with_reducible show isStop _=false);rfl)|((with_reducible show isP _=true);rfl)|((with_reducible show (isStop _ || isP _)=false);rfl)|assumption|(simp only [GSB,Nat.reduceEqDiff,reduceIte];done)|omega|(with_reducible decide)|(simp only [DSB,Go.Proofs.YtdfgdpjlbcnkfaaGreatDoorAbs.oneC,Nat.reduceAdd,Nat.reduceLeDiff] <;> omega)|fail) only [↓DN,↓reduceIte,UP,CGB,Int.reduceEq,Int.reduceLT,Int.reduceLE,Nat.reduceEqDiff,Nat.reduceAdd,Nat.reduceMul,Nat.reduceSub,Int.reduceToNat,Nat.reduceLeDiff,PF,isStop,isP,goInt,beq_self_eq_true,decide_true,decide_false,Int.toNat_natCast,nn_eq,nn_ne,hb,e0,e1,e8,e9,hd,wk,hj,w2,w3,w4,w5,w6,w7,hkj]) | ((with_reducible refine CB_intro (fun ht=>hcA ?_) (fun ht=>hcB ?_)) <;> (first|(simp only [Bool.true_eq_false,Bool.false_eq_true] at ht;done)|((try simp only [Bool.not_eq_true',Bool.not_eq_false'] at ht);(try simp only [ht]);(try simp only [HTN] at ht);(try (exfalso;omega))))) | ((with_reducible refine W_regionI ?_);simp only [List.append_eq,List.cons_append,List.nil_append]) | (with_reducible refine O_splitG fun cA cB hcA hcB=>?_))
    all_goals
      have hM2:=(hM.kept hKp hon)
      have hob:blkOf (.slice oa2 (out.length+j) oc2) ≠ some b:=by
        rcases hB with q|⟨i,q1,q2⟩
        · rw [q];intro z;exact (hap b z).1 rfl
        · rw [q2];intro z;cases z;omega
      have hon2:∀ i,blkOf (.slice oa2 (out.length+j) oc2)=some i→S.next≤i:=by
        intro i hi
        rcases hB with q|⟨i',q1,q2⟩
        · exact hon i (q ▸ hi)
        · rw [q2] at hi;cases hi;exact Nat.le_trans hM.next q1
      have hap2:Apart (.slice oa2 (out.length+j) oc2) b tv1 lv1:=by
        intro i hi
        rcases hB with q|⟨i',q1,q2⟩
        · exact hap i (q ▸ hi)
        · rw [q2] at hi;cases hi
          refine ⟨by omega,fun z=>?_,fun z=>?_⟩
          · have:=own_lt hR1.text z;omega
          · have:=own_lt hR1.trl z;omega
      have hyl:((xs.drop k).take j).length=j:=by simp;omega
      have hfd:=feed_data r1 he s3 ((xs.drop k).take j) ((xs.drop k).drop j) (fun z=>by rw [z] at hyl;simp at hyl;omega) (by rw [hyl];exact hj1.1)
      rw [List.take_append_drop,List.drop_drop,hyl] at hfd
      rw [hfd] at hF
      have hO3:Own 5 1 S2 (.slice oa2 (out.length+j) oc2) (out++(xs.drop k).take j).length (u8v (out++(xs.drop k).take j)):=by
        rw [List.length_append,hyl]
        simpa [u8v] using hO2
      have hcells : [Value.int .i64 r1.most,.int .i64 (r1.len+j),.int .i64 (if r1.left - (j:Int)=0 then 4 else 3),.nilIface,.int .i64 r1.digits,.int .u64 (r1.left - j),.bool r1.over,.int .i64 r1.extra,tv1,.int .i64 r1.sum,lv1]=((dataF r1 j).as tv1 lv1).cells:=by
        simp [dataF,CR.as,CR.cells,errW,he,s3]
      refine ⟨xs.length - (k+j),by omega,k+j,dataF r1 j,out++(xs.drop k).take j,tv1,lv1,_,11,by simp only [EVB,Nat.reduceEqDiff,reduceIte,e0],by simp only [EVB,Nat.reduceEqDiff,reduceIte,e1],by simp only [EVB,Nat.reduceEqDiff,reduceIte],by simp only [EVB,Nat.reduceEqDiff,reduceIte],by omega,rfl,hR2.upd (dataF r1 j) (by rw [← hcells];simp [*]) rfl rfl,dataF_inv hi1 he s3 hj1.1,hM2.trans Mv.upd,own_upd hO3 hob,hon2,hap2,by rw [List.length_append,hyl];omega,by rw [hF];simp [Nat.add_assoc]⟩
  have d3:decide (r1.state=3)=false:=decide_eq_false s3
  obtain ⟨c,hc⟩:∃ c,xs[k]? = some c:=⟨xs[k],by simp [hkl]⟩
  have hcell:cellAt (S1.get vb) (vo+k) vL=some (.int .u8 c.toNat):=by
    have e1:((cs.drop vo).take xs.length)[k]? = some (.int .u8 c.toNat):=by rw [hvt];simp [u8v,hc]
    rw [List.getElem?_take,if_pos hkl,List.getElem?_drop] at e1
    rw [hvc]
    simp only [cellAt]
    rw [if_pos (fun q=>⟨(hvo q).1,by have:=(hvo q).2;omega⟩)]
    exact e1
  have w4:IntKind.i64.wrap ((k:Int)+1)=((k+1:Nat):Int):=by rw [Go.Proofs.YtdfgdpjlbcnkfaaGreatDoorAbs.wp64 (by omega) (by omega)];omega
  have hsm:=hi1.sum;have htx:=hi1.text;have htr:=hi1.trl
  have htl:r1.text.length≤8192:=by have:=hsm.2.2 he;omega
  have hdr:xs.drop k=c :: xs.drop (k+1):=by
    rw [List.drop_eq_getElem_cons hkl]
    congr 1
    rw [List.getElem?_eq_getElem hkl] at hc
    exact Option.some.inj hc
  have hfd:feedF r1 (xs.drop k)=((feedF (stepF r1 c) (xs.drop (k+1))).1+1,(feedF (stepF r1 c) (xs.drop (k+1))).2.1,(feedF (stepF r1 c) (xs.drop (k+1))).2.2):=by
    rw [hdr]
    conv=>lhs;unfold feedF
    rw [if_neg (by simp [he,s8])]
    simp [byteF,outF,s3]
  rw [hfd] at hF
  repeat' (first | (with_reducible first|refine W_pushC fun K hK=>?_|refine W_blockI ?_|refine W_scopeI ?_|refine W_labelI ?_|refine W_skipI ?_|refine W_retI ?_|refine W_exitI ?_|refine then_normalI ?_|refine then_retI ?_|refine then_exitI ?_|refine inBlock_normalI ?_|refine inBlock_retI ?_|refine inBlock_exitI ?_|refine inBlock_exitN (by decide) ?_) | ((with_reducible first|refine bodyQ_normal0 ?_|refine bodyQ_normal1 ?_|refine bodyQ_normal2 ?_|refine bodyQ_normal3 ?_|refine bodyQ_normal4 ?_|refine bodyQ_ret0 ?_|refine bodyQ_ret1 ?_|refine bodyQ_ret2 ?_|refine bodyQ_ret3 ?_|refine bodyQ_ret4 ?_);(try simp only [EVB,Nat.reduceEqDiff,reduceIte])) | ((with_reducible show C _ _ _ _ _ _);first|(refine step_C h hR1 htl htr.1 hi1.col (fun S2 tv2 lv2 m2 hR2 hM2=>?_))) | (with_reducible refine Cont.use (by assumption) ?_) | (with_reducible first|refine hcA ?_|refine hcB ?_) | ((with_reducible show W _ _ (.region _ _ true) _ _ _);first|(refine W_drawn (fl:=[true,true,true,true,true,true,true,true,true,true,true,true,true,true,true]) (by kernel_rfl) ?_)) | ((with_reducible first|refine W_condG fun cA cB hcA hcB=>?_|refine W_regionI ?_|show O _ _ _ _ _ _ _ _|show OK _ _ _ _ _ _ _ _ _|show OKF _ _ _ _ _ _ _ _ _ _|show OKT _ _ _ _ _ _ _ _ _ _ _ _|show _∧_|show CG _ _ _|show CB _ _ _);simp (disch:=first|((with_reducible show isStop _=false);rfl)|((with_reducible show isP _=true);rfl)|((with_reducible show (isStop _ || isP _)=false);rfl)|assumption|(simp only [GSB,Nat.reduceEqDiff,reduceIte];done)|omega|(with_reducible decide)|(simp only [DSB,Go.Proofs.YtdfgdpjlbcnkfaaGreatDoorAbs.oneC,Nat.reduceAdd,Nat.reduceLeDiff] <;> omega)|fail) only [↓DN,↓reduceIte,UP,CGB,Int.reduceEq,Int.reduceLT,Int.reduceLE,Nat.reduceEqDiff,Nat.reduceAdd,Nat.reduceMul,Nat.reduceSub,Int.reduceToNat,Nat.reduceLeDiff,PF,isStop,isP,goInt,beq_self_eq_true,decide_true,decide_false,Int.toNat_natCast,nn_eq,nn_ne,hb,e0,e1,e8,e9,hd,w8,d3,hcell,w4]) | ((with_reducible refine CB_intro (fun ht=>hcA ?_) (fun ht=>hcB ?_)) <;> (first|(simp only [Bool.true_eq_false,Bool.false_eq_true] at ht;done)|((try simp only [Bool.not_eq_true',Bool.not_eq_false'] at ht);(try simp only [ht]);(try simp only [HTN] at ht);(try (exfalso;omega))))) | ((with_reducible refine W_regionI ?_);simp only [List.append_eq,List.cons_append,List.nil_append]) | (with_reducible refine O_splitG fun cA cB hcA hcB=>?_) | ((refine ⟨xs.length - (k+1),by omega,k+1,stepF r1 c,out,tv2,lv2,_,m2,by simp only [EVB,Nat.reduceEqDiff,reduceIte,e0],by simp only [EVB,Nat.reduceEqDiff,reduceIte,e1],by simp only [EVB,Nat.reduceEqDiff,reduceIte,e8],by simp only [EVB,Nat.reduceEqDiff,reduceIte],by omega,rfl,hR2,stepF_inv hi1 he s3,hM.trans hM2,own_mv hO hap hM2,hon,hap.mv hM2 (fun i hi=>own_lt hO hi),by omega,by rw [hF];simp [Nat.add_assoc,Nat.add_comm 1]⟩)))
end
end Go.Proofs.YtdfgdpjlbcnkfaaGreatDoor.Q
namespace Go.Proofs.YtdfgdpjlbcnkfaaGreatDoor.Q
open Go Go.Proofs.YtdfgdpjlbcnkfaaGreatDoorAbs Go.Proofs
set_option linter.unusedVariables false
set_option linter.unusedSimpArgs false
set_option maxRecDepth 100000
set_option maxHeartbeats 4000000
attribute [local irreducible] YtdfgdpjlbcnkfaaGreatDoorAbs.O YtdfgdpjlbcnkfaaGreatDoorAbs.W YtdfgdpjlbcnkfaaGreatDoorAbs.C YtdfgdpjlbcnkfaaGreatDoorAbs.OK YtdfgdpjlbcnkfaaGreatDoorAbs.OKF YtdfgdpjlbcnkfaaGreatDoorAbs.OKT YtdfgdpjlbcnkfaaGreatDoorAbs.then_ YtdfgdpjlbcnkfaaGreatDoorAbs.inBlock_ YtdfgdpjlbcnkfaaGreatDoorAbs.bodyQ YtdfgdpjlbcnkfaaGreatDoorAbs.Cont
section
variable {I:Prims} {S:St} {Q:Value→St→Prop}
theorem nsl_eq (x:Operand):binX Tryz.prog .eql 40 x (.const (.slice none 0 0)) (.slice none 0 0) (.slice none 0 0)=some (.bool true):=by cases x <;> kernel_rfl
def CR.fresh {α β:Type} (t:α) (l:β) (most:Int):CR α β:=⟨most,0,0,none,0,0,false,0,t,0,l⟩
theorem New_C (h:HI I) {most:Int}
    (hQ:¬ (most<0∨1099511627776<most)→Q (.tuple #[.pointer (some ⟨S.next,0,some 11⟩),.nilIface]) (S.push ⟨(CR.fresh (.slice none 0 0) (.slice none 0 0) most).cells,92,true,0⟩))
    (hQ2:(most<0∨1099511627776<most)→Q (.tuple #[.pointer none,.iface 58 (.int .i64 1)]) S) :
    C Tryz.prog I 22 #[.int .i64 most] S Q:=by
  refine C_body (rs:=[.tmp 2,.tmp 3]) (h.no 22 (by decide)) Tryz.func22 rfl rfl ok22 ?_
  obtain ⟨sz23,u24,sz5,u5,u9,u3,sz36,sz3,sz44,u37,sz34,u34,sz24,sz4,u4,sz58,u58,sz65,sz63,u63,sz42,sz26,u40,sz74,sz40,sz78,u83,sz81,sz9,sz92,sz89,u89,sz90,u90,u108,sz115,u115,sz133,u133,u138,u21,u145,u148,sz147⟩:=UF
  repeat' (first | (with_reducible first|refine W_pushC fun K hK=>?_|refine W_blockI ?_|refine W_scopeI ?_|refine W_labelI ?_|refine W_skipI ?_|refine W_retI ?_|refine W_exitI ?_|refine then_normalI ?_|refine then_retI ?_|refine then_exitI ?_|refine inBlock_normalI ?_|refine inBlock_retI ?_|refine inBlock_exitI ?_|refine inBlock_exitN (by decide) ?_) | ((with_reducible first|refine bodyQ_normal0 ?_|refine bodyQ_normal1 ?_|refine bodyQ_normal2 ?_|refine bodyQ_normal3 ?_|refine bodyQ_normal4 ?_|refine bodyQ_ret0 ?_|refine bodyQ_ret1 ?_|refine bodyQ_ret2 ?_|refine bodyQ_ret3 ?_|refine bodyQ_ret4 ?_);(try simp only [EVB,Nat.reduceEqDiff,reduceIte])) | (with_reducible refine Cont.use (by assumption) ?_) | (with_reducible first|refine hcA ?_|refine hcB ?_) | ((with_reducible first|refine W_condG fun cA cB hcA hcB=>?_|refine W_regionI ?_|show O _ _ _ _ _ _ _ _|show OK _ _ _ _ _ _ _ _ _|show OKF _ _ _ _ _ _ _ _ _ _|show OKT _ _ _ _ _ _ _ _ _ _ _ _|show _∧_|show CG _ _ _|show CB _ _ _);simp (disch:=first|((with_reducible show isStop _=false);rfl)|((with_reducible show isP _=true);rfl)|((with_reducible show (isStop _ || isP _)=false);rfl)|assumption|(simp only [GSB,Nat.reduceEqDiff,reduceIte];done)|omega|(with_reducible decide)|(simp only [DSB,Go.Proofs.YtdfgdpjlbcnkfaaGreatDoorAbs.oneC,Nat.reduceAdd,Nat.reduceLeDiff] <;> omega)|fail) only [↓DN,↓reduceIte,UP,CGB,Int.reduceEq,Int.reduceLT,Int.reduceLE,Nat.reduceEqDiff,Nat.reduceAdd,Nat.reduceMul,Nat.reduceSub,Int.reduceToNat,Nat.reduceLeDiff,PF,isStop,isP,goInt,beq_self_eq_true,decide_true,decide_false,Int.toNat_natCast,nn_eq,nn_ne]) | ((with_reducible refine CB_intro (fun ht=>hcA ?_) (fun ht=>hcB ?_)) <;> (first|(simp only [Bool.true_eq_false,Bool.false_eq_true] at ht;done)|((try simp only [Bool.not_eq_true',Bool.not_eq_false'] at ht);(try simp only [ht]);(try simp only [HTN] at ht);(try (exfalso;omega))))) | ((with_reducible refine W_regionI ?_);simp only [List.append_eq,List.cons_append,List.nil_append]) | (with_reducible refine O_splitG fun cA cB hcA hcB=>?_) | (exact hQ2 (by omega)) | (exact hQ (by omega)))
def numF:Option Int→Int
  | none=>0
  | some c=>c
theorem pr_und {P:Program} {t:TypeId} {d:TypeDesc} (h:P.underlying t=some d):pureRun P (underlying t)=some d:=by
  simp [underlying,program,pureRun,pureRun_bind,Bind.bind,Sem.bind,h,pure]
theorem pr_str (n:Nat) (t:TypeId) (a c:ByteArray) (h:Tryz.prog.underlying t=some .string):pureRun Tryz.prog (Op.equalIn (n+1) t (.string a) (.string c))=some (a == c):=by
  rw [Op.equalIn,pureRun_bind,pr_und h]
  rfl
theorem eq74 (a b c d:ByteArray):pureRun Tryz.prog (Op.equalIn 10000 74 (.agg #[.string a,.string b]) (.agg #[.string c,.string d]))=some ((a == c) && (b == d)):=by
  have hp:Tryz.prog.stoodInHeld 74=false:=by kernel_rfl
  have hpr:pureRun Tryz.prog program=some Tryz.prog:=rfl
  have p1:∀ a b:ByteArray,pureRun Tryz.prog (part 9 #[Value.string a,Value.string b] 0)=some (.string a):=fun a b=>by kernel_rfl
  have p2:∀ a b:ByteArray,pureRun Tryz.prog (part 9 #[Value.string a,Value.string b] 1)=some (.string b):=fun a b=>by kernel_rfl
  have s1:∀ a c:ByteArray,pureRun Tryz.prog (Op.equalIn 9999 9 (.string a) (.string c))=some (a == c):=fun a c=>pr_str 9998 9 a c u9
  rw [show (10000:Nat)=9999+1 from rfl,Op.equalIn,pureRun_bind,pr_und (by exact Tryz.underlying74)]
  simp only [Option.bind_some]
  rw [pureRun_bind,hpr]
  simp only [Option.bind_some,hp,Bool.false_eq_true,if_false]
  rw [pureRun_bind,← Array.forIn_toList]
  simp only [List.forIn_cons,List.forIn_nil,pureRun_bind,p1,p2,s1,Option.bind_some,ne_eq,String.reduceEq,not_false_eq_true,if_true]
  cases h1:(a == c)
  · simp [pureRun_pure,pureRun_bind]
  · cases h2:(b == d)
    · simp [pureRun_pure,pureRun_bind,p2,s1,h2]
    · simp [pureRun_pure,pureRun_bind,p2,s1,h2]
theorem pr_map {α β:Type} {P:Program} (f:α→β) (e:Sem α):pureRun P (f <$> e)=(pureRun P e).map f:=by
  show pureRun P (e >>= fun a=>pure (f a))=_
  rw [pureRun_bind]
  cases pureRun P e <;> rfl
theorem ne74 (x y:Operand) (a b c d:ByteArray):binX Tryz.prog .neq 74 x y (.agg #[.string a,.string b]) (.agg #[.string c,.string d])=some (.bool (!((a == c) && (b == d)))):=by
  have hg:Tryz.prog.eqGuardType Tryz.prog.depth 74=false:=by kernel_rfl
  have hpr:pureRun Tryz.prog program=some Tryz.prog:=rfl
  simp [binX,abinOp,anil,scalar,leaf,eqGuard,binOp,Op.equal,Op.maxDepth,pureRun_bind,pureRun_pure,hpr,hg,pr_map,eq74]
theorem fldv_at (xs:List Fld) (i:Nat) (h:i<xs.length):((fldv xs).drop (i * 2)).take 2 = [.string (xs[i]).1,.string (xs[i]).2]:=by
  induction xs generalizing i with
  | nil=>simp at h
  | cons x xs ih =>
    cases i with
    | zero=>simp [fldv]
    | succ i =>
      have:=ih i (by simpa using h)
      simp only [fldv,List.flatMap_cons] at this ⊢
      rw [show (i+1) * 2=2+i * 2 by omega,← List.drop_drop]
      simpa using this
theorem fldv_len (xs:List Fld):(fldv xs).length=xs.length * 2:=by
  induction xs with
  | nil=>rfl
  | cons x xs ih=>simp only [fldv,List.flatMap_cons,List.length_append,List.length_cons,List.length_nil] at ih ⊢;omega
end
end Go.Proofs.YtdfgdpjlbcnkfaaGreatDoor.Q
namespace Go.Proofs.YtdfgdpjlbcnkfaaGreatDoor.Q
open Go Go.Proofs.YtdfgdpjlbcnkfaaGreatDoorAbs Go.Proofs
set_option linter.unusedVariables false
set_option linter.unusedSimpArgs false
set_option maxRecDepth 100000
set_option maxHeartbeats 4000000
attribute [local irreducible] YtdfgdpjlbcnkfaaGreatDoorAbs.O YtdfgdpjlbcnkfaaGreatDoorAbs.W YtdfgdpjlbcnkfaaGreatDoorAbs.C YtdfgdpjlbcnkfaaGreatDoorAbs.OK YtdfgdpjlbcnkfaaGreatDoorAbs.OKF YtdfgdpjlbcnkfaaGreatDoorAbs.OKT YtdfgdpjlbcnkfaaGreatDoorAbs.then_ YtdfgdpjlbcnkfaaGreatDoorAbs.inBlock_ YtdfgdpjlbcnkfaaGreatDoorAbs.bodyQ YtdfgdpjlbcnkfaaGreatDoorAbs.Cont
section
variable {I:Prims} {S:St} {Q:Value→St→Prop}
theorem byteF_inv {r:PRd} {c:UInt8} (hi:RInv r) (he:r.err=none):RInv (byteF r c):=by
  unfold byteF
  split
  · have:=(hi.dat (by assumption)).1
    exact dataF_inv hi he (by assumption) (by omega)
  · exact stepF_inv hi he (by assumption)
theorem feed_inv:∀ (xs:List UInt8) (r:PRd),RInv r→RInv (feedF r xs).2.2
  | [],r,h=>h
  | c :: l,r,h=>by
    unfold feedF
    split
    · exact h
    · rename_i hn
      exact feed_inv l _ (byteF_inv h (Decidable.byContradiction fun q=>hn (.inl q)))
theorem step_len (r:PRd) (c:UInt8) (h:r.state ≠ 3):(byteF r c).len=r.len∧(byteF r c).most=r.most:=by
  have a1:∀ k,(sizeF r k).len=r.len∧(sizeF r k).most=r.most:=fun k=>by grind [sizeF]
  have a2:∀ k,(extF r k).len=r.len∧(extF r k).most=r.most:=fun k=>by grind [extF]
  have a3:∀ k,(begF r k).len=r.len∧(begF r k).most=r.most:=fun k=>by grind [begF]
  have a4:∀ k w n,(mustF r k w n).len=r.len∧(mustF r k w n).most=r.most:=fun k w n=>by grind [mustF]
  have a5:(endsF r c).len=r.len∧(endsF r c).most=r.most:=by grind [endsF]
  have a6:(trailerF r c).len=r.len∧(trailerF r c).most=r.most:=by grind [trailerF]
  unfold byteF
  rw [if_neg h]
  unfold stepF
  split
  · exact a1 _
  split
  · exact a2 _
  split
  · exact a3 _
  split
  · exact a4 _ _ _
  split
  · exact a4 _ _ _
  · exact a6
theorem feed_len:∀ (xs:List UInt8) (r:PRd),(feedF r xs).2.2.len=r.len+(feedF r xs).2.1.length∧(feedF r xs).2.2.most=r.most
  | [],r=>by simp [feedF]
  | c :: l,r=>by
    unfold feedF
    split
    · simp
    · have ih:=feed_len l (byteF r c)
      by_cases h3:r.state=3
      · simp only [outF,if_pos h3,List.length_append,List.length_cons,List.length_nil,ih]
        simp only [byteF,if_pos h3,dataF,and_true]
        omega
      · have:=step_len r c h3
        simp only [outF,if_neg h3,List.nil_append,ih,this,and_self]
theorem conv_any {v:Value} {xs:List UInt8} (hO:Own 5 1 S v xs.length (u8v xs)):alt (aconvert Tryz.prog S 24 9 v) (lift S (cvX Tryz.prog 24 9 v))=some (.string ⟨xs.toArray⟩,S):=by
  rcases hO.2.2 with ⟨rfl,h0⟩|⟨b,m,rfl,h1,h2,h3,h4⟩
  · have:xs = []:=List.length_eq_zero_iff.1 h0
    subst this
    have e1:aconvert Tryz.prog S 24 9 (.slice none 0 0)=none:=by simp [aconvert,u24,u9]
    have e2:cvX Tryz.prog 24 9 (.slice none 0 0)=some (.string ⟨#[]⟩):=by kernel_rfl
    rw [e1,e2]
    rfl
  · have hl:(u8v xs).length=xs.length:=by simp [u8v]
    rw [hl] at h2 ⊢
    rw [conv_own (o:=0) (k:=xs.length) h1 h2 (by omega)]
    simp [alt]
end
end Go.Proofs.YtdfgdpjlbcnkfaaGreatDoor.Q
namespace Go.Proofs.YtdfgdpjlbcnkfaaGreatDoor.Q
open Go Go.Proofs.YtdfgdpjlbcnkfaaGreatDoorAbs Go.Proofs
set_option linter.unusedVariables false
set_option linter.unusedSimpArgs false
set_option maxRecDepth 100000
set_option maxHeartbeats 4000000
attribute [local irreducible] YtdfgdpjlbcnkfaaGreatDoorAbs.O YtdfgdpjlbcnkfaaGreatDoorAbs.W YtdfgdpjlbcnkfaaGreatDoorAbs.C YtdfgdpjlbcnkfaaGreatDoorAbs.OK YtdfgdpjlbcnkfaaGreatDoorAbs.OKF YtdfgdpjlbcnkfaaGreatDoorAbs.OKT YtdfgdpjlbcnkfaaGreatDoorAbs.then_ YtdfgdpjlbcnkfaaGreatDoorAbs.inBlock_ YtdfgdpjlbcnkfaaGreatDoorAbs.bodyQ YtdfgdpjlbcnkfaaGreatDoorAbs.Cont
section
variable {I:Prims} {S:St} {Q:Value→St→Prop}
theorem np_eq (x:Operand):binX Tryz.prog .eql 63 x (.const (.pointer none)) (.pointer none) (.pointer none)=some (.bool true):=by cases x <;> kernel_rfl
end
end Go.Proofs.YtdfgdpjlbcnkfaaGreatDoor.Q
namespace Go.Proofs.YtdfgdpjlbcnkfaaGreatDoor.Q
open Go Go.Proofs.YtdfgdpjlbcnkfaaGreatDoorAbs Go.Proofs
set_option linter.unusedVariables false
set_option linter.unusedSimpArgs false
set_option maxRecDepth 100000
set_option maxHeartbeats 4000000
attribute [local irreducible] YtdfgdpjlbcnkfaaGreatDoorAbs.O YtdfgdpjlbcnkfaaGreatDoorAbs.W YtdfgdpjlbcnkfaaGreatDoorAbs.C YtdfgdpjlbcnkfaaGreatDoorAbs.OK YtdfgdpjlbcnkfaaGreatDoorAbs.OKF YtdfgdpjlbcnkfaaGreatDoorAbs.OKT YtdfgdpjlbcnkfaaGreatDoorAbs.then_ YtdfgdpjlbcnkfaaGreatDoorAbs.inBlock_ YtdfgdpjlbcnkfaaGreatDoorAbs.bodyQ YtdfgdpjlbcnkfaaGreatDoorAbs.Cont
structure HW (I:Prims):Prop extends HI I where
section
variable {I:Prims} {S:St} {Q:Value→St→Prop}
theorem fresh_inv {most:Int} (h0:¬ (most<0∨1099511627776<most)):RInv (CR.fresh [] [] most) :=
  ⟨by simp only [CR.fresh];omega,by simp only [CR.fresh];omega,by simp [CR.fresh],by simp [CR.fresh],by simp [CR.fresh],by simp [CR.fresh],by simp [CR.fresh],by simp [CR.fresh],by simp [CR.fresh],by simp [CR.fresh],by simp [CR.fresh]⟩
theorem fresh_rd {S:St} {b:Nat} {most:Int} (hb:S.get b=some ⟨(CR.fresh (.slice none 0 0) (.slice none 0 0) most).cells,92,true,0⟩) (hn:b<S.next):Rd S b (CR.fresh [] [] most) (.slice none 0 0) (.slice none 0 0) 0 :=
  ⟨hb,Nat.zero_le _,hn,Own.nil _ _ _,Own.nil _ _ _,by simp [blkOf],by simp [blkOf],.inl rfl⟩
theorem sl_own {S:St} {v:Value} {xs:List UInt8} (h:Own 5 1 S v xs.length (u8v xs)):Sl S v xs:=by
  have hl:(u8v xs).length=xs.length:=by simp [u8v]
  rcases h.2.2 with ⟨rfl,h0⟩|⟨b,m,rfl,h1,h2,h3,h4⟩
  · exact ⟨none,0,by rw [h0],fun _=>rfl,fun q=>absurd (List.length_eq_zero_iff.1 h0) q⟩
  · rw [hl] at h2 ⊢
    exact ⟨_,_,rfl,fun q=>(by cases q),fun _=>⟨b,0,xs.length,u8v xs,5,true,m,rfl,.inl rfl,h1,fun _=>⟨h2,by omega⟩,by rw [List.drop_zero,← hl,List.take_length],h3⟩⟩
theorem pr_bool (n:Nat) (t:TypeId) (a c:Bool) (h:Tryz.prog.underlying t=some .bool):pureRun Tryz.prog (Op.equalIn (n+1) t (.bool a) (.bool c))=some (a == c):=by
  rw [Op.equalIn,pureRun_bind,pr_und h]
  rfl
theorem beql4 (x y:Operand) (a b:Bool):binX Tryz.prog .eql 4 x y (.bool a) (.bool b)=some (.bool (a == b)):=by
  have e:pureRun Tryz.prog (Op.equalIn 10000 4 (.bool a) (.bool b))=some (a == b):=pr_bool 9999 4 a b u4
  simp [binX,abinOp,anil,scalar,leaf,eqGuard,binOp,Op.equal,Op.maxDepth,pureRun_bind,pureRun_pure,pr_map,e]
theorem sl_sub {S:St} {b o L c k j:Nat} {xs:List UInt8} (h:Sl S (.slice (some ⟨b,o,some L⟩) xs.length c) xs) (hcU:c=UNK+1) (hk:k+j≤xs.length):Sl S (.slice (some ⟨b,o+k,some L⟩) j c) ((xs.drop k).take j):=by
  have hl:((xs.drop k).take j).length=j:=by simp;omega
  obtain ⟨a,c',e,h0,h1⟩:=h
  cases e
  refine ⟨_,_,by rw [hl],fun q=>(by cases q),fun hne=>?_⟩
  have hj:0<j:=by
    rcases Nat.eq_zero_or_pos j with q|q
    · subst q;simp at hne
    · exact q
  obtain ⟨b',o',L',cs,el,own,m,e1,e2,e3,e4,e5,e6⟩:=h1 (fun q=>by rw [q] at hk;simp at hk;omega)
  cases e1
  refine ⟨b,o+k,L,cs,el,own,m,rfl,.inl hcU,e3,fun q=>⟨(e4 q).1,by have:=(e4 q).2;rw [hl];omega⟩,?_,e6⟩
  rw [hl,← List.drop_drop]
  have:u8v ((xs.drop k).take j)=((u8v xs).drop k).take j:=by simp [u8v,List.map_drop,List.map_take]
  rw [this,← e5,List.drop_take,List.take_take,Nat.min_eq_left (by omega)]
theorem feed_out:∀ (xs:List UInt8) (r:PRd),(feedF r xs).2.1.length≤xs.length
  | [],r=>Nat.le_refl _
  | c :: l,r=>by
    unfold feedF
    split
    · simp
    · have:=feed_out l (byteF r c)
      simp only [List.length_append,List.length_cons]
      have:(outF r c).length≤1:=by unfold outF;split <;> simp
      omega
theorem aslice_to {b o n j:Nat} {s:Option Nat}:∀ hj:j≤n,aslice Tryz.prog 24 (.slice (some ⟨b,o,s⟩) n (UNK+1)) none (some (.int .i64 (j:Int))) none=some (.slice (some ⟨b,o,s⟩) j (UNK+1)):=fun hj=>by
  rw [aslice_h u24 sz5 (by omega) (by omega)];simp
end
end Go.Proofs.YtdfgdpjlbcnkfaaGreatDoor.Q
namespace Go.Proofs.YtdfgdpjlbcnkfaaGreatDoor.Q
open Go Go.Proofs.YtdfgdpjlbcnkfaaGreatDoorAbs Go.Proofs
set_option linter.unusedVariables false
set_option linter.unusedSimpArgs false
def CR.at (most len sum:Int) (t:List Fld):PRd:=⟨most,len,0,none,0,0,false,0,[],sum,t⟩
end Go.Proofs.YtdfgdpjlbcnkfaaGreatDoor.Q
namespace Go.Proofs.YtdfgdpjlbcnkfaaGreatDoor.Q
open Go Go.Proofs.YtdfgdpjlbcnkfaaGreatDoorAbs Go.Proofs
set_option linter.unusedVariables false
set_option linter.unusedSimpArgs false
set_option maxRecDepth 100000
def lineFld (l:List UInt8):Fld:=(⟨(l.take (rcolF l).toNat).toArray⟩,trimB ⟨(l.drop ((rcolF l).toNat+1)).toArray⟩)
def trlR (r:RR) (c:UInt8):RR :=
  match trlE r c.toNat with
  | some (st,e)=>r.with1 st e (r.bytes+1)
  | none=>if r.state=7 then { r with line:=[],bytes:=r.bytes+1,state:=6,trl:=r.trl ++ [lineFld r.line] } else { r with line:=r.line ++ [c],bytes:=r.bytes+1 }
def stepR (r:RR) (c:UInt8):RR :=
  if r.state=3 then dataR r else if r.state=4∨r.state=5 then crR r c.toNat else if r.state=6∨r.state=7 then trlR r c else sizeR r c.toNat
def outR (r:RR) (c:UInt8):List UInt8:=if r.state=3 then [c] else []
def feedR:RR→List UInt8→Nat × List UInt8 × RR
  | r,[]=>(0,[],r)
  | r,c :: l=>if r.state=8∨r.state=9 then (0,[],r) else ((feedR (stepR r c) l).1+1,outR r c++(feedR (stepR r c) l).2.1,(feedR (stepR r c) l).2.2)
theorem rcolF_cons (x:UInt8) (l:List UInt8):rcolF (x :: l)=if x=58 then 0 else if rcolF l = -1 then -1 else rcolF l+1:=by
  by_cases hx:x=58
  · simp [rcolF,rcol,hx]
  · rw [if_neg hx]
    have e:rcol (x :: l)=(rcol l).map (· + 1):=by rw [rcol,if_neg hx]
    unfold rcolF
    rw [e]
    rcases rcol l with _|k
    · rfl
    · show ((k+1:Nat):Int)=if ((k:Nat):Int) = -1 then -1 else ((k:Nat):Int)+1
      rw [if_neg (by omega)];omega
theorem rcolF_eq:∀ l:List UInt8,rcolF l=Go.Lib.indexByte l 58
  | []=>rfl
  | x :: l=>by
    rw [rcolF_cons,rcolF_eq l]
    conv=>rhs;unfold Go.Lib.indexByte
    by_cases hx:x=58
    · simp [hx]
    · have hb:(x == 58)=false:=by simpa using hx
      rw [if_neg hx,hb]
      by_cases h:Go.Lib.indexByte l 58 = -1 <;> simp [h]
theorem tok_eq (c:UInt8):rtokB (c.toNat:Int)=tokB (c.toNat:Int):=by
  have h:∀ n:Nat,n<256→rtokB (n:Int)=tokB (n:Int):=by decide +kernel
  exact h _ c.toNat_lt
theorem val_eq (c:UInt8):rwordB (c.toNat:Int)=valB (c.toNat:Int):=by
  have h:∀ n:Nat,n<256→rwordB (n:Int)=valB (n:Int):=by decide +kernel
  exact h _ c.toNat_lt
theorem hex_eq (c:UInt8):hexF (c.toNat:Int)=if 0≤rhexF (c.toNat:Int) then (rhexF (c.toNat:Int),true) else (0,false):=by
  have h:∀ n:Nat,n<256→hexF (n:Int)=if 0≤rhexF (n:Int) then (rhexF (n:Int),true) else (0,false):=by decide +kernel
  exact h _ c.toNat_lt
theorem u64_or60 (a d:Nat) (ha:a<1152921504606846976) (hd:d<16):IntKind.u64.wrap (BitVec.ofInt IntKind.u64.bits (IntKind.u64.wrap ((a:Int) * 2 ^ (min (4:Int).toNat IntKind.u64.bits))) ||| BitVec.ofInt IntKind.u64.bits (IntKind.u64.wrap (d:Int))).toNat=((a * 16+d:Nat):Int):=by
  have e1:IntKind.u64.wrap ((a:Int) * 2 ^ (min (4:Int).toNat IntKind.u64.bits))=((a * 16:Nat):Int):=by
    rw [show (min (4:Int).toNat IntKind.u64.bits)=4 from rfl,Go.Proofs.YtdfgdpjlbcnkfaaGreatDoorAbs.wpu64 (by omega) (by omega)];omega
  have e2:IntKind.u64.wrap (d:Int)=(d:Int):=Go.Proofs.YtdfgdpjlbcnkfaaGreatDoorAbs.wpu64 (by omega) (by omega)
  rw [e1,e2]
  have e3:(BitVec.ofInt IntKind.u64.bits ((a * 16:Nat):Int) ||| BitVec.ofInt IntKind.u64.bits (d:Int)).toNat=a * 16+d:=by
    rw [BitVec.ofInt_natCast,BitVec.ofInt_natCast,BitVec.toNat_or,BitVec.toNat_ofNat,BitVec.toNat_ofNat]
    rw [show (2:Nat) ^ IntKind.u64.bits=18446744073709551616 from rfl,Nat.mod_eq_of_lt (by omega),Nat.mod_eq_of_lt (by omega)]
    have:=Nat.two_pow_add_eq_or_of_lt (i:=4) (b:=d) (by omega) a
    rw [show (2:Nat) ^ 4=16 from rfl,Nat.mul_comm 16 a] at this
    exact this.symm
  rw [e3,Go.Proofs.YtdfgdpjlbcnkfaaGreatDoorAbs.wpu64 (by omega) (by omega)]
theorem shl4 (a d:Int) (h0:0≤a) (ha:a<1152921504606846976) (d0:0≤d) (hd:d<16):IntKind.u64.wrap (BitVec.ofInt IntKind.u64.bits (IntKind.u64.wrap (a * 2 ^ (min (4:Int).toNat IntKind.u64.bits))) ||| BitVec.ofInt IntKind.u64.bits (IntKind.u64.wrap d)).toNat=a * 16+d:=by
  have:=u64_or60 a.toNat d.toNat (by omega) (by omega)
  rw [Int.toNat_of_nonneg h0,Int.toNat_of_nonneg d0] at this
  rw [this];omega
theorem shr60 (a:Int) (h0:0≤a) (h1:a<18446744073709551616):decide (a.fdiv (2 ^ (min (60:Int).toNat IntKind.u64.bits))=0)=decide (a<1152921504606846976):=by
  have e:(2:Int) ^ (min (60:Int).toNat IntKind.u64.bits)=1152921504606846976:=by decide
  rw [e,Int.fdiv_eq_ediv_of_nonneg _ (by decide)]
  by_cases h:a<1152921504606846976
  · rw [decide_eq_true h,decide_eq_true (by omega)]
  · rw [decide_eq_false h,decide_eq_false (by omega)]
def szB (over:Bool) (left:Int):Int:=if over=true∨1125899906842624<left then 1125899906842624 else left
structure Bi (p:PRd) (r:RR):Prop where
  most:r.most=p.most
  len:r.len=p.len
  trl:r.trl=p.trailers
  st:(∃ e,p.err=some e∧(e ≠ 0∧p.state ≠ 8)∧r.state=9∧r.e=e)∨(p.err=none∧r.state=p.state∧r.e=0∧r.digits=p.digits∧r.more=p.extra∧r.line=p.text∧(p.state ≠ 8→r.bytes=p.sum+(if p.state=7∧p.text.length=0 then 1 else 0))∧r.size=szB p.over p.left∧(p.state=3→p.over=false)∧rcolF p.text ≠ 0∧(p.state=1→p.digits ≠ 0))
theorem szB_range (o:Bool) (l:Int) (h:0≤l):0≤szB o l∧szB o l≤1125899906842624:=by unfold szB;split <;> omega
theorem Bi.invR {p:PRd} {r:RR} (h:Bi p r) (hi:RInv p) (h9:r.state ≠ 9) (h8:r.state ≠ 8):RInvR r:=by
  obtain ⟨h1,h2,h3,⟨e,q1,q0,q2,_⟩|⟨q1,q2,q3,q4,q5,q6,q7,q8,q9,q10,q11⟩⟩:=h
  · exact absurd q2 h9
  have hb:=q7 (by omega)
  have hs:=hi.sum
  have ht:=hi.text
  have hz:=szB_range p.over p.left hi.left.1
  have hx:=hi.extra
  refine ⟨by rw [h1];exact hi.most,by rw [h1,h2];exact hi.len,by rw [q4];exact hi.dig,by rw [q8];exact hz,by rw [q5];omega,by rw [hb];split <;> omega,?_,by rw [h3];exact hi.trl.1⟩
  rw [q6,hb];split <;> omega
theorem Bi.err {p:PRd} {r:RR} (h:Bi p r) (hi:RInv p):(p.err ≠ none∨p.state=8) ↔ (r.state=8∨r.state=9):=by
  have:=hi.st
  obtain ⟨h1,h2,h3,⟨e,q1,q0,q2,_⟩|⟨q1,q2,_⟩⟩:=h
  · simp [q1,q2]
  · rw [q1,q2];constructor
    · rintro (q|q)
      · exact absurd rfl q
      · exact .inl q
    · rintro (q|q)
      · exact .inr q
      · omega
theorem Bi.size {p:PRd} {r:RR} (h:Bi p r) (hi:RInv p) (hs:r.state=3):r.size=p.left∧0<r.size:=by
  obtain ⟨h1,h2,h3,⟨e,q1,q0,q2,_⟩|⟨q1,q2,q3,q4,q5,q6,q7,q8,q9,q10,q11⟩⟩:=h
  · omega
  have h3':p.state=3:=by omega
  have hd:=hi.dat h3'
  have hm:=hi.most
  have hl:=hi.len
  rw [q8,szB,q9 h3',if_neg (by simp <;> omega)]
  exact ⟨rfl,hd.1⟩
theorem rcol0 (x:UInt8) (l:List UInt8):rcolF (x :: l)=0 ↔ x=58:=by
  by_cases hx:x=58
  · simp [rcolF,rcol,hx]
  · simp only [rcolF,rcol,if_neg hx,hx,iff_false]
    cases rcol l with
    | none=>simp
    | some k=>simp;omega
theorem rcolF_app (l:List UInt8) (c:UInt8) (h:rcolF l ≠ 0) (hc:l = []→c ≠ 58):rcolF (l ++ [c]) ≠ 0:=by
  cases l with
  | nil =>
    rw [List.nil_append]
    exact fun q=>hc rfl ((rcol0 _ _).1 q)
  | cons x t =>
    rw [List.cons_append]
    exact fun q=>h ((rcol0 _ _).2 ((rcol0 _ _).1 q))
theorem Bi.data {pm pl pd pleft px psum rb:Int} {po:Bool} {ptxt:List UInt8} {ptrl:List Fld} (hi:RInv (⟨pm,pl,3,none,pd,pleft,po,px,ptxt,psum,ptrl⟩:PRd)) (hb:rb=psum) (ho:po=false) (hc:rcolF ptxt ≠ 0) :
    Bi (dataF ⟨pm,pl,3,none,pd,pleft,po,px,ptxt,psum,ptrl⟩ 1) (dataR ⟨pm,pl,3,0,pd,szB po pleft,px,ptxt,rb,ptrl⟩):=by
  subst hb ho
  have hd:=hi.dat rfl
  have hm:=hi.most
  have hl:=hi.len
  simp only at hd hm hl
  have hz:szB false pleft=pleft:=by rw [szB,if_neg (by simp;omega)]
  have hz1:szB false (pleft - 1)=pleft - 1:=by rw [szB,if_neg (by simp;omega)]
  rw [hz]
  unfold dataF dataR
  by_cases h:pleft - 1=0
  · have h':pleft - ((1:Nat):Int)=0:=h
    rw [if_pos h']
    simp only [h,if_true]
    exact ⟨rfl,rfl,rfl,.inr ⟨rfl,rfl,rfl,rfl,rfl,rfl,fun _=>by simp,by rw [h'];rfl,fun q=>by simp at q,hc,fun q=>by simp at q⟩⟩
  · have h':¬ pleft - ((1:Nat):Int)=0:=h
    rw [if_neg h']
    simp only [if_neg h]
    exact ⟨rfl,rfl,rfl,.inr ⟨rfl,rfl,rfl,rfl,rfl,rfl,fun _=>by simp,hz1.symm,fun _=>rfl,hc,fun q=>by simp at q⟩⟩
theorem Bi.size0 {pm pl pd pleft px psum rb:Int} {po:Bool} {ptxt:List UInt8} {ptrl:List Fld} {c:UInt8} (hi:RInv (⟨pm,pl,0,none,pd,pleft,po,px,ptxt,psum,ptrl⟩:PRd)) (hb:rb=psum) (hc:rcolF ptxt ≠ 0) :
    Bi (sizeF ⟨pm,pl,0,none,pd,pleft,po,px,ptxt,psum,ptrl⟩ c.toNat) (sizeR ⟨pm,pl,0,0,pd,szB po pleft,px,ptxt,rb,ptrl⟩ c.toNat):=by
  subst hb
  have hx0:px=0:=hi.extra.2.2.2 rfl rfl
  have hl:=hi.left
  have hg:=hi.dig
  simp only at hl hg
  subst hx0
  have gr:=rhexF_range (c.toNat:Int)
  unfold sizeF sizeR
  rw [if_neg (show ¬ ((0:Int)=2∧(c.toNat:Int)=10) by omega),if_neg (show ¬ (0:Int)=2 by omega)]
  by_cases hx:0≤rhexF (c.toNat:Int)∧pd<16
  · rw [hex_eq,if_pos hx.1,if_pos ⟨rfl,hx.2⟩,if_pos ⟨rfl,hx⟩]
    have w:IntKind.i64.wrap (pd+1)=pd+1:=Go.Proofs.YtdfgdpjlbcnkfaaGreatDoorAbs.wp64 (by omega) (by omega)
    refine ⟨rfl,rfl,rfl,.inr ⟨rfl,rfl,rfl,w.symm,rfl,rfl,fun _=>by simp,?_,fun q=>by simp at q,hc,fun q=>by simp at q⟩⟩
    simp only
    rw [shr60 _ hl.1 hl.2]
    by_cases hb60:pleft<1152921504606846976
    · rw [shl4 _ _ hl.1 hb60 hx.1 (by omega),decide_eq_true hb60]
      cases po
      · simp only [szB,Bool.not_true,Bool.or_false,Bool.false_eq_true,false_or]
        by_cases h5:1125899906842624<pleft
        · rw [if_pos h5,if_pos (by omega),if_pos (by omega)]
        · rw [if_neg h5]
      · simp only [szB,Bool.true_or,true_or,if_true]
        rw [if_pos (by omega)]
    · rw [decide_eq_false hb60]
      have:szB po pleft=1125899906842624:=by rw [szB,if_pos (.inr (by omega))]
      rw [this]
      simp only [szB,Bool.not_false,Bool.or_true,true_or,if_true]
      rw [if_pos (by omega)]
  · have e1:¬ ((hexF (c.toNat:Int)).2=true∧pd<16):=by
      rw [hex_eq]
      by_cases hy:0≤rhexF (c.toNat:Int)
      · rw [if_pos hy];exact fun q=>hx ⟨hy,q.2⟩
      · rw [if_neg hy];simp
    rw [if_neg e1,if_neg (show ¬ ((0:Int)=0∧0≤rhexF (c.toNat:Int)∧pd<16) from fun q=>hx q.2)]
    by_cases hd0:pd=0
    · rw [if_pos hd0,if_pos hd0]
      exact ⟨rfl,rfl,rfl,.inl ⟨_,rfl,⟨by decide,by simp [CR.reset]⟩,rfl,rfl⟩⟩
    rw [if_neg hd0,if_neg hd0]
    by_cases h13:(c.toNat:Int)=13
    · rw [if_pos h13,if_pos h13]
      exact ⟨rfl,rfl,rfl,.inr ⟨rfl,rfl,rfl,rfl,rfl,rfl,fun _=>by simp,rfl,fun q=>by simp at q,hc,fun q=>by simp at q⟩⟩
    rw [if_neg h13,if_neg h13]
    by_cases hq:(c.toNat:Int)=59∨(c.toNat:Int)=32∨(c.toNat:Int)=9
    · rw [if_pos hq,if_pos (.inl ⟨rfl,hq⟩),if_neg (by simp only;omega)]
      have w:IntKind.i64.wrap (0+1)=1:=by decide
      exact ⟨rfl,rfl,rfl,.inr ⟨rfl,rfl,rfl,rfl,w.symm,rfl,fun _=>by simp,rfl,fun q=>by simp at q,hc,fun _=>hd0⟩⟩
    · rw [if_neg hq,if_neg (by simp only;omega)]
      exact ⟨rfl,rfl,rfl,.inl ⟨_,rfl,⟨by decide,by simp [CR.reset]⟩,rfl,rfl⟩⟩
theorem Bi.ext {pm pl pd pleft px psum rb:Int} {po:Bool} {ptxt:List UInt8} {ptrl:List Fld} {c:UInt8} (hi:RInv (⟨pm,pl,1,none,pd,pleft,po,px,ptxt,psum,ptrl⟩:PRd)) (hb:rb=psum) (hc:rcolF ptxt ≠ 0) (hd0:pd ≠ 0) :
    Bi (extF ⟨pm,pl,1,none,pd,pleft,po,px,ptxt,psum,ptrl⟩ c.toNat) (sizeR ⟨pm,pl,1,0,pd,szB po pleft,px,ptxt,rb,ptrl⟩ c.toNat):=by
  subst hb
  have hx:=hi.extra
  simp only at hx
  have w:IntKind.i64.wrap (px+1)=px+1:=Go.Proofs.YtdfgdpjlbcnkfaaGreatDoorAbs.wp64 (by omega) (by omega)
  unfold extF sizeR
  rw [if_neg (show ¬ ((1:Int)=2∧(c.toNat:Int)=10) by omega),if_neg (show ¬ (1:Int)=2 by omega),if_neg (show ¬ ((1:Int)=0∧0≤rhexF (c.toNat:Int)∧pd<16) by omega),if_neg hd0]
  by_cases h13:(c.toNat:Int)=13
  · rw [if_pos h13,if_pos h13]
    exact ⟨rfl,rfl,rfl,.inr ⟨rfl,rfl,rfl,rfl,rfl,rfl,fun _=>by simp,rfl,fun q=>by simp at q,hc,fun q=>by simp at q⟩⟩
  rw [if_neg h13,if_neg h13]
  simp only [w,val_eq]
  cases hv:valB (c.toNat:Int)
  · rw [if_pos (by simp),if_neg (by simp)]
    exact ⟨rfl,rfl,rfl,.inl ⟨_,rfl,⟨by decide,by simp [CR.reset]⟩,rfl,rfl⟩⟩
  · by_cases h6:256<px+1
    · rw [if_pos (by simp [h6]),if_pos (by simp),if_pos h6]
      exact ⟨rfl,rfl,rfl,.inl ⟨_,rfl,⟨by decide,by simp [CR.reset]⟩,rfl,rfl⟩⟩
    · rw [if_neg (by simp [h6]),if_pos (by simp),if_neg h6]
      exact ⟨rfl,rfl,rfl,.inr ⟨rfl,rfl,rfl,rfl,rfl,rfl,fun _=>by simp,rfl,fun q=>by simp at q,hc,fun _=>hd0⟩⟩
theorem Bi.beg {pm pl pd pleft px psum rb:Int} {po:Bool} {ptxt:List UInt8} {ptrl:List Fld} {c:UInt8} (hi:RInv (⟨pm,pl,2,none,pd,pleft,po,px,ptxt,psum,ptrl⟩:PRd)) (hb:rb=psum) (hc:rcolF ptxt ≠ 0) :
    Bi (begF ⟨pm,pl,2,none,pd,pleft,po,px,ptxt,psum,ptrl⟩ c.toNat) (sizeR ⟨pm,pl,2,0,pd,szB po pleft,px,ptxt,rb,ptrl⟩ c.toNat):=by
  subst hb
  have hm:=hi.most
  have hl:=hi.len
  have hf:=hi.left
  simp only at hm hl hf
  have w1:IntKind.i64.wrap (pm - pl)=pm - pl:=Go.Proofs.YtdfgdpjlbcnkfaaGreatDoorAbs.wp64 (by omega) (by omega)
  have w2:IntKind.u64.wrap (pm - pl)=pm - pl:=Go.Proofs.YtdfgdpjlbcnkfaaGreatDoorAbs.wpu64 (by omega) (by omega)
  unfold begF sizeR
  simp only [w1,w2,true_and,if_true]
  by_cases h10:(c.toNat:Int)=10
  · rw [if_neg (fun q=>q h10),if_pos h10]
    by_cases hz:po=true∨pm - pl<pleft
    · have hs:pm - pl<szB po pleft:=by unfold szB;split <;> (rcases hz with z|z <;> simp_all <;> omega)
      rw [if_pos (by simpa using hz),if_pos hs]
      exact ⟨rfl,rfl,rfl,.inl ⟨_,rfl,⟨by decide,by simp [CR.reset]⟩,rfl,rfl⟩⟩
    · have ho:po=false:=by cases po <;> simp_all
      have hle:pleft≤pm - pl:=by omega
      subst ho
      have hs:szB false pleft=pleft:=by rw [szB,if_neg (by simp;omega)]
      rw [if_neg (by simp;omega),hs,if_neg (show ¬ pm - pl<pleft by omega)]
      by_cases h0:pleft=0
      · rw [if_pos h0,if_pos h0]
        exact ⟨rfl,rfl,rfl,.inr ⟨rfl,rfl,rfl,rfl,rfl,rfl,fun _=>by simp,hs.symm,fun q=>by simp at q,hc,fun q=>by simp at q⟩⟩
      · rw [if_neg h0,if_neg h0]
        exact ⟨rfl,rfl,rfl,.inr ⟨rfl,rfl,rfl,rfl,rfl,rfl,fun _=>by simp,hs.symm,fun _=>rfl,hc,fun q=>by simp at q⟩⟩
  · rw [if_pos h10,if_neg h10]
    exact ⟨rfl,rfl,rfl,.inl ⟨_,rfl,⟨by decide,by simp [CR.reset]⟩,rfl,rfl⟩⟩
theorem Bi.cr {pm pl ps pd pleft px psum rb:Int} {po:Bool} {ptxt:List UInt8} {ptrl:List Fld} {c:UInt8} (hs:ps=4∨ps=5) (hb:rb=psum) (hc:rcolF ptxt ≠ 0) :
    Bi (stepF ⟨pm,pl,ps,none,pd,pleft,po,px,ptxt,psum,ptrl⟩ c) (crR ⟨pm,pl,ps,0,pd,szB po pleft,px,ptxt,rb,ptrl⟩ c.toNat):=by
  subst hb
  unfold stepF crR
  rcases hs with rfl|rfl
  · rw [if_neg (by simp only;omega),if_neg (by simp only;omega),if_neg (by simp only;omega),if_pos rfl,if_pos rfl]
    unfold mustF
    by_cases h:(c.toNat:Int)=13
    · rw [if_pos h,if_pos h]
      exact ⟨rfl,rfl,rfl,.inr ⟨rfl,rfl,rfl,rfl,rfl,rfl,fun _=>by simp,rfl,fun q=>by simp at q,hc,fun q=>by simp at q⟩⟩
    · rw [if_neg h,if_neg h]
      exact ⟨rfl,rfl,rfl,.inl ⟨_,rfl,⟨by decide,by simp [CR.reset]⟩,rfl,rfl⟩⟩
  · rw [if_neg (by simp only;omega),if_neg (by simp only;omega),if_neg (by simp only;omega),if_neg (by simp only;omega),if_pos rfl,if_neg (by simp only;omega)]
    unfold mustF
    by_cases h:(c.toNat:Int)=10
    · rw [if_pos h,if_pos h]
      exact ⟨rfl,rfl,rfl,.inr ⟨rfl,rfl,rfl,rfl,rfl,rfl,fun _=>by simp [CR.reset],rfl,fun q=>by simp [CR.reset] at q,hc,fun q=>by simp [CR.reset] at q⟩⟩
    · rw [if_neg h,if_neg h]
      exact ⟨rfl,rfl,rfl,.inl ⟨_,rfl,⟨by decide,by simp [CR.reset]⟩,rfl,rfl⟩⟩
theorem Bi.trailer {pm pl ps pd pleft px psum rb:Int} {po:Bool} {ptxt:List UInt8} {ptrl:List Fld} {c:UInt8} (hi:RInv (⟨pm,pl,ps,none,pd,pleft,po,px,ptxt,psum,ptrl⟩:PRd)) (hs:ps=6∨ps=7) (hb:rb=psum+(if ps=7∧ptxt.length=0 then 1 else 0)) (hc:rcolF ptxt ≠ 0) :
    Bi (trailerF ⟨pm,pl,ps,none,pd,pleft,po,px,ptxt,psum,ptrl⟩ c) (trlR ⟨pm,pl,ps,0,pd,szB po pleft,px,ptxt,rb,ptrl⟩ c):=by
  have hsum:=hi.sum
  have hs8:=hsum.2.2 rfl
  have htrl:=hi.trl
  simp only at hsum hs8 htrl
  have w:IntKind.i64.wrap (psum+1)=psum+1:=Go.Proofs.YtdfgdpjlbcnkfaaGreatDoorAbs.wp64 (by omega) (by omega)
  rcases hs with rfl|rfl
  · rw [if_neg (by omega),Int.add_zero] at hb
    subst hb
    unfold trailerF trlR
    rw [if_neg (by simp only;omega)]
    simp only [w,← rcolF_eq]
    by_cases p1:ptxt.length=0∧(c.toNat:Int)=13
    · have e:trlE ⟨pm,pl,6,0,pd,szB po pleft,px,ptxt,rb,ptrl⟩ c.toNat=some (7,0):=by
        rw [trlE,if_neg (by simp only;omega),if_neg (by simp only;omega),if_pos p1.2,if_neg (by simp only;omega)]
      rw [if_pos p1,e]
      exact ⟨rfl,rfl,rfl,.inr ⟨rfl,rfl,rfl,rfl,rfl,rfl,fun _=>by simp [RR.with1,p1.1],rfl,fun q=>by simp at q,hc,fun q=>by simp at q⟩⟩
    rw [if_neg p1]
    by_cases p2:8192<rb+1
    · have e:trlE ⟨pm,pl,6,0,pd,szB po pleft,px,ptxt,rb,ptrl⟩ c.toNat=some (9,22):=by
        rw [trlE,if_pos (by simp only;omega)]
      rw [if_pos p2,e]
      exact ⟨rfl,rfl,rfl,.inl ⟨_,rfl,⟨by decide,by simp [CR.reset]⟩,rfl,rfl⟩⟩
    rw [if_neg p2]
    by_cases p13:(c.toNat:Int)=13
    · have hn:ptxt.length ≠ 0:=fun q=>p1 ⟨q,p13⟩
      rw [if_neg (fun q=>hn q.1)]
      by_cases hr:rcolF ptxt<0
      · have e:trlE ⟨pm,pl,6,0,pd,szB po pleft,px,ptxt,rb,ptrl⟩ c.toNat=some (9,21):=by
          rw [trlE,if_neg (by simp only;omega),if_neg (by simp only;omega),if_pos p13,if_pos ⟨hr,hn⟩]
        rw [if_neg (by omega),if_neg (by omega),e]
        exact ⟨rfl,rfl,rfl,.inl ⟨_,rfl,⟨by decide,by simp [CR.reset]⟩,rfl,rfl⟩⟩
      · have e:trlE ⟨pm,pl,6,0,pd,szB po pleft,px,ptxt,rb,ptrl⟩ c.toNat=some (7,0):=by
          rw [trlE,if_neg (by simp only;omega),if_neg (by simp only;omega),if_pos p13,if_neg (by simp only;omega)]
        rw [if_pos ⟨p13,by omega⟩,e]
        exact ⟨rfl,rfl,rfl,.inr ⟨rfl,rfl,rfl,rfl,rfl,rfl,fun _=>by simp [RR.with1,hn],rfl,fun q=>by simp at q,hc,fun q=>by simp at q⟩⟩
    have ht58:tokB (58:Int)=false:=by decide +kernel
    have e0:trlE ⟨pm,pl,6,0,pd,szB po pleft,px,ptxt,rb,ptrl⟩ c.toNat=if (rcolF ptxt<0∧(c.toNat:Int)=58∧ptxt.length=0)∨(rcolF ptxt<0∧(c.toNat:Int) ≠ 58∧tokB (c.toNat:Int)=false)∨(0≤rcolF ptxt∧valB (c.toNat:Int)=false)∨(ptxt.length=0∧ptrl.length=64) then some (9,21) else none:=by
      rw [trlE,if_neg (by simp only;omega),if_neg (by simp only;omega),if_neg p13,tok_eq,val_eq]
    by_cases p3:ptxt.length=0∧ptrl.length=64
    · rw [if_pos p3,e0,if_pos (.inr (.inr (.inr p3)))]
      exact ⟨rfl,rfl,rfl,.inl ⟨_,rfl,⟨by decide,by simp [CR.reset]⟩,rfl,rfl⟩⟩
    rw [if_neg p3,if_neg (fun q=>p13 q.1)]
    by_cases p4:(0<rcolF ptxt∧valB (c.toNat:Int)=true)∨(rcolF ptxt<0∧(tokB (c.toNat:Int)=true∨(c.toNat:Int)=58∧¬ ptxt.length=0))
    · have hn:¬ ((rcolF ptxt<0∧(c.toNat:Int)=58∧ptxt.length=0)∨(rcolF ptxt<0∧(c.toNat:Int) ≠ 58∧tokB (c.toNat:Int)=false)∨(0≤rcolF ptxt∧valB (c.toNat:Int)=false)∨(ptxt.length=0∧ptrl.length=64)):=by
        rintro (⟨a,b,d⟩|⟨a,b,d⟩|⟨a,b⟩|q)
        · rcases p4 with ⟨y,z⟩|⟨y,z|z⟩
          · omega
          · rw [b,ht58] at z;cases z
          · exact z.2 d
        · rcases p4 with ⟨y,z⟩|⟨y,z|z⟩
          · omega
          · rw [d] at z;cases z
          · exact b z.1
        · rcases p4 with ⟨y,z⟩|⟨y,z⟩
          · rw [b] at z;cases z
          · omega
        · exact p3 q
      have hcond:(¬ (c.toNat:Int)=13∧0<rcolF ptxt∧valB (c.toNat:Int)=true)∨(¬ (c.toNat:Int)=13∧rcolF ptxt<0∧(tokB (c.toNat:Int)=true∨(c.toNat:Int)=58∧¬ ptxt.length=0)):=by
        rcases p4 with y|y
        · exact .inl ⟨p13,y⟩
        · exact .inr ⟨p13,y⟩
      rw [if_pos hcond,e0,if_neg hn]
      simp only
      rw [if_neg (by omega)]
      refine ⟨rfl,rfl,rfl,.inr ⟨rfl,rfl,rfl,rfl,rfl,rfl,fun _=>by simp,rfl,fun q=>by simp at q,rcolF_app _ _ hc (fun q h58=>?_),fun q=>by simp at q⟩⟩
      have hl0:ptxt.length=0:=by rw [q];rfl
      have h58':(c.toNat:Int)=58:=by rw [h58];rfl
      exact hn (.inl ⟨by rw [q];simp [rcolF,rcol],h58',hl0⟩)
    · have hy:(rcolF ptxt<0∧(c.toNat:Int)=58∧ptxt.length=0)∨(rcolF ptxt<0∧(c.toNat:Int) ≠ 58∧tokB (c.toNat:Int)=false)∨(0≤rcolF ptxt∧valB (c.toNat:Int)=false)∨(ptxt.length=0∧ptrl.length=64):=by
        by_cases hr:rcolF ptxt<0
        · by_cases h58:(c.toNat:Int)=58
          · exact .inl ⟨hr,h58,Decidable.byContradiction fun q=>p4 (.inr ⟨hr,.inr ⟨h58,q⟩⟩)⟩
          · refine .inr (.inl ⟨hr,h58,?_⟩)
            cases ht:tokB (c.toNat:Int) with
            | false=>rfl
            | true=>exact absurd (.inr ⟨hr,.inl ht⟩) p4
        · refine .inr (.inr (.inl ⟨by omega,?_⟩))
          cases ht:valB (c.toNat:Int) with
          | false=>rfl
          | true=>exact absurd (.inl ⟨by omega,ht⟩) p4
      rw [if_neg (fun q=>p4 (q.elim (fun y=>.inl y.2) (fun y=>.inr y.2))),e0,if_pos hy]
      exact ⟨rfl,rfl,rfl,.inl ⟨_,rfl,⟨by decide,by simp [CR.reset]⟩,rfl,rfl⟩⟩
  · unfold trailerF trlR
    rw [if_pos rfl]
    unfold endsF
    simp only [w,← rcolF_eq]
    by_cases p0:ptxt.length=0
    · rw [if_pos ⟨rfl,p0⟩] at hb
      subst hb
      rw [if_pos p0,if_neg (show ¬ 8192<psum by omega)]
      by_cases p10:(c.toNat:Int)=10
      · have e:trlE ⟨pm,pl,7,0,pd,szB po pleft,px,ptxt,psum+1,ptrl⟩ c.toNat=some (8,0):=by
          rw [trlE,if_neg (fun q=>q.2 ⟨p0,.inl rfl⟩),if_pos rfl,if_neg (fun q=>q p10),if_pos p0]
        rw [if_neg (fun q=>q p10),if_pos p0,e]
        exact ⟨rfl,rfl,rfl,.inr ⟨rfl,rfl,rfl,rfl,rfl,rfl,fun q=>absurd rfl q,rfl,fun q=>by simp at q,hc,fun q=>by simp at q⟩⟩
      · have e:trlE ⟨pm,pl,7,0,pd,szB po pleft,px,ptxt,psum+1,ptrl⟩ c.toNat=some (9,21):=by
          rw [trlE,if_neg (fun q=>q.2 ⟨p0,.inl rfl⟩),if_pos rfl,if_pos p10]
        rw [if_pos p10,e]
        exact ⟨rfl,rfl,rfl,.inl ⟨_,rfl,⟨by decide,by simp [CR.reset]⟩,rfl,rfl⟩⟩
    · rw [if_neg (fun q=>p0 q.2),Int.add_zero] at hb
      subst hb
      rw [if_neg p0]
      by_cases p2:8192<rb+1
      · have e:trlE ⟨pm,pl,7,0,pd,szB po pleft,px,ptxt,rb,ptrl⟩ c.toNat=some (9,22):=by
          rw [trlE,if_pos ⟨p2,fun q=>p0 q.1⟩]
        rw [if_pos p2,e]
        exact ⟨rfl,rfl,rfl,.inl ⟨_,rfl,⟨by decide,by simp [CR.reset]⟩,rfl,rfl⟩⟩
      rw [if_neg p2]
      by_cases p10:(c.toNat:Int)=10
      · have e:trlE ⟨pm,pl,7,0,pd,szB po pleft,px,ptxt,rb,ptrl⟩ c.toNat=none:=by
          rw [trlE,if_neg (fun q=>p2 q.1),if_pos rfl,if_neg (fun q=>q p10),if_neg p0]
        rw [if_neg (fun q=>q p10),if_neg p0,e]
        simp only [if_true]
        exact ⟨rfl,rfl,rfl,.inr ⟨rfl,rfl,rfl,rfl,rfl,rfl,fun _=>by simp,rfl,fun q=>by simp at q,by simp [rcolF,rcol],fun q=>by simp at q⟩⟩
      · have e:trlE ⟨pm,pl,7,0,pd,szB po pleft,px,ptxt,rb,ptrl⟩ c.toNat=some (9,21):=by
          rw [trlE,if_neg (fun q=>p2 q.1),if_pos rfl,if_pos p10]
        rw [if_pos p10,e]
        exact ⟨rfl,rfl,rfl,.inl ⟨_,rfl,⟨by decide,by simp [CR.reset]⟩,rfl,rfl⟩⟩
theorem Bi.step {p:PRd} {r:RR} (h:Bi p r) (hi:RInv p) (c:UInt8) (h8:r.state ≠ 8) (h9:r.state ≠ 9):Bi (byteF p c) (stepR r c)∧outR r c=outF p c:=by
  have hst:=hi.st
  obtain ⟨h1,h2,h3,⟨e,q1,q0,q2,_⟩|⟨q1,q2,q3,q4,q5,q6,q7,q8,q9,q10,q11⟩⟩:=h
  · exact absurd q2 h9
  rcases p with ⟨pm,pl,ps,pe,pd,pleft,po,px,ptxt,psum,ptrl⟩
  rcases r with ⟨rm,rl,rs,re,rd,rsz,rmore,rline,rb,rtrl⟩
  simp only at h1 h2 h3 q1 q2 q3 q4 q5 q6 q7 q8 q9 q10 q11 h8 h9 hst
  subst h1 h2 h3 q1 q2 q3 q4 q5 q6 q8
  have hb:=q7 h8
  refine ⟨?_,rfl⟩
  unfold byteF stepR
  by_cases s3:rs=3
  · subst s3
    rw [if_pos rfl,if_pos rfl]
    exact Bi.data hi (by simpa using hb) (q9 rfl) q10
  rw [if_neg s3,if_neg s3]
  by_cases s45:rs=4∨rs=5
  · rw [if_pos s45]
    exact Bi.cr s45 (by rw [if_neg (by omega)] at hb;simpa using hb) q10
  rw [if_neg s45]
  by_cases s67:rs=6∨rs=7
  · rw [if_pos s67]
    unfold stepF
    rw [if_neg (by simp only;omega),if_neg (by simp only;omega),if_neg (by simp only;omega),if_neg (by simp only;omega),if_neg (by simp only;omega)]
    exact Bi.trailer hi s67 hb q10
  rw [if_neg s67]
  unfold stepF
  have hb':rb=psum:=by rw [if_neg (by omega)] at hb;simpa using hb
  by_cases s0:rs=0
  · subst s0
    rw [if_pos rfl]
    exact Bi.size0 hi hb' q10
  by_cases s1:rs=1
  · subst s1
    rw [if_neg (by simp only;omega),if_pos rfl]
    exact Bi.ext hi hb' q10 (q11 rfl)
  have s2:rs=2:=by omega
  subst s2
  rw [if_neg (by simp only;omega),if_neg (by simp only;omega),if_pos rfl]
  exact Bi.beg hi hb' q10
theorem Bi.feed:∀ (xs:List UInt8) {p:PRd} {r:RR},Bi p r→RInv p→(feedR r xs).1=(feedF p xs).1∧(feedR r xs).2.1=(feedF p xs).2.1∧Bi (feedF p xs).2.2 (feedR r xs).2.2
  | [],p,r,h,hi=>⟨rfl,rfl,h⟩
  | c :: l,p,r,h,hi=>by
    have he:=h.err hi
    unfold feedR feedF
    by_cases q:r.state=8∨r.state=9
    · rw [if_pos q,if_pos (he.2 q)];exact ⟨rfl,rfl,h⟩
    · have q':¬ (p.err ≠ none∨p.state=8):=fun z=>q (he.1 z)
      rw [if_neg q,if_neg q']
      have hs:=h.step hi c (fun z=>q (.inl z)) (fun z=>q (.inr z))
      have hn:=byteF_inv (c:=c) hi (Decidable.byContradiction fun z=>q' (.inl z))
      obtain ⟨i1,i2,i3⟩:=Bi.feed l hs.1 hn
      exact ⟨by simp only;rw [i1],by simp only;rw [i2,hs.2],i3⟩
theorem Bi.fresh (most:Int):Bi (CR.fresh [] [] most:PRd) ⟨most,0,0,0,0,0,0,[],0,[]⟩ :=
  ⟨rfl,rfl,rfl,.inr ⟨rfl,rfl,rfl,rfl,rfl,rfl,fun _=>rfl,rfl,fun q=>by simp [CR.fresh] at q,by simp [CR.fresh,rcolF,rcol],fun q=>by simp [CR.fresh] at q⟩⟩
theorem Bi.ends {p:PRd} {r:RR} (h:Bi p r):r.e=(match p.err with|none=>0|some c=>c)∧decide (r.state=8)=decide (p.state=8)∧∀ c,p.err=some c→c ≠ 0:=by
  obtain ⟨h1,h2,h3,⟨e,q1,q0,q2,q3⟩|⟨q1,q2,q3,_⟩⟩:=h
  · refine ⟨by rw [q1,q3],?_,fun c hc=>?_⟩
    · rw [decide_eq_false (by omega),decide_eq_false q0.2]
    · rw [q1] at hc;cases hc;exact q0.1
  · exact ⟨by rw [q1,q3],by rw [q2],fun c hc=>by rw [q1] at hc;cases hc⟩
end Go.Proofs.YtdfgdpjlbcnkfaaGreatDoor.Q
namespace Go.Proofs.YtdfgdpjlbcnkfaaGreatDoor.Q
open Go Go.Proofs.YtdfgdpjlbcnkfaaGreatDoorAbs Go.Proofs
set_option linter.unusedVariables false
set_option linter.unusedSimpArgs false
set_option maxRecDepth 100000
set_option maxHeartbeats 4000000
attribute [local irreducible] YtdfgdpjlbcnkfaaGreatDoorAbs.O YtdfgdpjlbcnkfaaGreatDoorAbs.W YtdfgdpjlbcnkfaaGreatDoorAbs.C YtdfgdpjlbcnkfaaGreatDoorAbs.OK YtdfgdpjlbcnkfaaGreatDoorAbs.OKF YtdfgdpjlbcnkfaaGreatDoorAbs.OKT YtdfgdpjlbcnkfaaGreatDoorAbs.then_ YtdfgdpjlbcnkfaaGreatDoorAbs.inBlock_ YtdfgdpjlbcnkfaaGreatDoorAbs.bodyQ YtdfgdpjlbcnkfaaGreatDoorAbs.Cont
section
variable {I:Prims} {S:St} {Q:Value→St→Prop} {c:Int}
def blP (b:UInt8):Bool:=([32,9]:List UInt8).contains b
def rdw (l:List UInt8):List UInt8:=(l.reverse.dropWhile blP).reverse
theorem rdw_cons (x:UInt8) (t:List UInt8):rdw (x :: t)=if (rdw t = []∧blP x=true) then [] else x :: rdw t:=by
  unfold rdw
  rw [List.reverse_cons,List.dropWhile_append]
  cases h:(t.reverse.dropWhile blP) with
  | nil =>
    cases hx:blP x <;> simp [hx]
  | cons y r =>
    simp
theorem dw_rdw:∀ l:List UInt8,(rdw l).dropWhile blP=rdw (l.dropWhile blP)
  | []=>rfl
  | x :: t=>by
    have ih:=dw_rdw t
    rw [rdw_cons]
    cases hx:blP x with
    | true =>
      rw [List.dropWhile_cons_of_pos hx]
      by_cases h:rdw t = []
      · rw [if_pos ⟨h,rfl⟩,← ih,h]
      · rw [if_neg (fun q=>h q.1),List.dropWhile_cons_of_pos hx,ih]
    | false =>
      rw [if_neg (by simp),List.dropWhile_cons_of_neg (by simp [hx]),List.dropWhile_cons_of_neg (by simp [hx]),rdw_cons,if_neg (by simp [hx])]
theorem trimS_eq (l:List UInt8):Go.Lib.trimS l [32,9]=rdw (l.dropWhile blP):=by
  rw [← dw_rdw];rfl
theorem blP_rbl (x:UInt8):rblB ((x.toNat:Nat):Int)=blP x:=by
  have e:∀ k:UInt8,decide (((x.toNat:Nat):Int)=((k.toNat:Nat):Int))=(x == k):=fun k=>by
    rw [Bool.eq_iff_iff,decide_eq_true_eq,beq_iff_eq,← UInt8.toNat_inj]
    omega
  have e1:=e 32
  have e2:=e 9
  have n1:(((32:UInt8).toNat:Nat):Int)=32:=rfl
  have n2:(((9:UInt8).toNat:Nat):Int)=9:=rfl
  rw [n1] at e1
  rw [n2] at e2
  simp only [rblB,blP,e1,e2]
  simp only [List.contains_cons,List.contains_nil,Bool.or_false]
theorem RTrim_C (h1:∀ k,I k 57=none) (h2:∀ k,I k 67=none) {l0:List UInt8} (hn:l0.length≤1099511627776) (hQ:Q (.string (trimB ⟨l0.toArray⟩)) S):C Tryz.prog I 57 #[.string ⟨l0.toArray⟩] S Q:=by
  refine C_body (rs:=[.tmp 2]) h1 Tryz.func57 rfl rfl ok57 ?_
  obtain ⟨sz23,u24,sz5,u5,u9,u3,sz36,sz3,sz44,u37,sz34,u34,sz24,sz4,u4,sz58,u58,sz65,sz63,u63,sz42,sz26,u40,sz74,sz40,sz78,u83,sz81,sz9,sz92,sz89,u89,sz90,u90,u108,sz115,u115,sz133,u133,u138,u21,u145,u148,sz147⟩:=UF
  have hF:trimB ⟨l0.toArray⟩=⟨(rdw (l0.dropWhile blP)).toArray⟩:=by simp [trimB,trimS_eq]
  rw [hF] at hQ
  have hsz:∀ l:List UInt8,(⟨l.toArray⟩:ByteArray).size=l.length:=fun l=>by simp [ByteArray.size]
  repeat' (first | (with_reducible first|refine W_pushC fun K hK=>?_|refine W_blockI ?_|refine W_scopeI ?_|refine W_labelI ?_|refine W_skipI ?_|refine W_retI ?_|refine W_exitI ?_|refine then_normalI ?_|refine then_retI ?_|refine then_exitI ?_|refine inBlock_normalI ?_|refine inBlock_retI ?_|refine inBlock_exitI ?_|refine inBlock_exitN (by decide) ?_) | ((with_reducible first|refine bodyQ_normal0 ?_|refine bodyQ_normal1 ?_|refine bodyQ_normal2 ?_|refine bodyQ_normal3 ?_|refine bodyQ_normal4 ?_|refine bodyQ_ret0 ?_|refine bodyQ_ret1 ?_|refine bodyQ_ret2 ?_|refine bodyQ_ret3 ?_|refine bodyQ_ret4 ?_);(try simp only [EVB,Nat.reduceEqDiff,reduceIte])) | (with_reducible refine Cont.use (by assumption) ?_) | (with_reducible first|refine hcA ?_|refine hcB ?_) | ((with_reducible first|refine W_condG fun cA cB hcA hcB=>?_|refine W_regionI ?_|show O _ _ _ _ _ _ _ _|show OK _ _ _ _ _ _ _ _ _|show OKF _ _ _ _ _ _ _ _ _ _|show OKT _ _ _ _ _ _ _ _ _ _ _ _|show _∧_|show CG _ _ _|show CB _ _ _);simp (disch:=first|((with_reducible show isStop _=false);rfl)|((with_reducible show isP _=true);rfl)|((with_reducible show (isStop _ || isP _)=false);rfl)|assumption|(simp only [GSB,Nat.reduceEqDiff,reduceIte];done)|omega|(with_reducible decide)|(simp only [DSB,Go.Proofs.YtdfgdpjlbcnkfaaGreatDoorAbs.oneC,Nat.reduceAdd,Nat.reduceLeDiff] <;> omega)|fail) only [↓DN,↓reduceIte,UP,CGB,Int.reduceEq,Int.reduceLT,Int.reduceLE,Nat.reduceEqDiff,Nat.reduceAdd,Nat.reduceMul,Nat.reduceSub,Int.reduceToNat,Nat.reduceLeDiff,PF,isStop,isP,goInt,beq_self_eq_true,decide_true,decide_false,Int.toNat_natCast,Int.natCast_zero]) | ((with_reducible refine CB_intro (fun ht=>hcA ?_) (fun ht=>hcB ?_)) <;> (first|(simp only [Bool.true_eq_false,Bool.false_eq_true] at ht;done)|((try simp only [Bool.not_eq_true',Bool.not_eq_false'] at ht);(try simp only [ht]);(try simp only [HTN] at ht);(try (exfalso;omega))))) | ((with_reducible refine W_regionI ?_);simp only [List.append_eq,List.cons_append,List.nil_append]) | (with_reducible refine O_splitG fun cA cB hcA hcB=>?_))
  refine W_loop (fun n e S1=>∃ l:List UInt8,e.get 0=.string ⟨l.toArray⟩∧n=l.length∧l.length≤l0.length∧l.dropWhile blP=l0.dropWhile blP∧S1=S) l0.length ⟨l0,by simp only [EVB,Nat.reduceEqDiff,reduceIte],rfl,Nat.le_refl _,rfl,rfl⟩ ?_
  rintro n e S1 ⟨l,e0,rfl,hle,hdw,rfl⟩
  by_cases hB:∃ x t,l=x :: t∧blP x=true
  · obtain ⟨x,t,rfl,hb⟩:=hB
    have dl:decide ((0:Int)<(((x :: t).length:Nat):Int))=true:=decide_eq_true (by simp only [List.length_cons];omega)
    have hix:ixX Tryz.prog 9 (.string ⟨(x :: t).toArray⟩) (.int .i64 0)=some (.int .u8 ((x.toNat:Nat):Int)):=by
      rw [ixX_string _ _ _ _ u9 (by decide) (by rw [hsz];simp only [List.length_cons];omega)];rfl
    have hsl:ssX Tryz.prog 9 (.string ⟨(x :: t).toArray⟩) (some (.int .i64 1)) none none=some (.string ⟨t.toArray⟩):=by
      rw [ssX_l _ _ _ _ u9 (by decide) (by rw [hsz];simp only [List.length_cons];omega)]
      congr 2
      apply ByteArray.ext
      apply Array.ext'
      simp [hsz]
    have hbb:rblB ((x.toNat:Nat):Int)=true:=by rw [blP_rbl,hb]
    repeat' (first | (with_reducible first|refine W_pushC fun K hK=>?_|refine W_blockI ?_|refine W_scopeI ?_|refine W_labelI ?_|refine W_skipI ?_|refine W_retI ?_|refine W_exitI ?_|refine then_normalI ?_|refine then_retI ?_|refine then_exitI ?_|refine inBlock_normalI ?_|refine inBlock_retI ?_|refine inBlock_exitI ?_|refine inBlock_exitN (by decide) ?_) | ((with_reducible first|refine bodyQ_normal0 ?_|refine bodyQ_normal1 ?_|refine bodyQ_normal2 ?_|refine bodyQ_normal3 ?_|refine bodyQ_normal4 ?_|refine bodyQ_ret0 ?_|refine bodyQ_ret1 ?_|refine bodyQ_ret2 ?_|refine bodyQ_ret3 ?_|refine bodyQ_ret4 ?_);(try simp only [EVB,Nat.reduceEqDiff,reduceIte])) | ((with_reducible show C _ _ _ _ _ _);first|(refine RBlank_C h2 ?_)) | (with_reducible refine Cont.use (by assumption) ?_) | (with_reducible first|refine hcA ?_|refine hcB ?_) | ((with_reducible first|refine W_condG fun cA cB hcA hcB=>?_|refine W_regionI ?_|show O _ _ _ _ _ _ _ _|show OK _ _ _ _ _ _ _ _ _|show OKF _ _ _ _ _ _ _ _ _ _|show OKT _ _ _ _ _ _ _ _ _ _ _ _|show _∧_|show CG _ _ _|show CB _ _ _);simp (disch:=first|((with_reducible show isStop _=false);rfl)|((with_reducible show isP _=true);rfl)|((with_reducible show (isStop _ || isP _)=false);rfl)|assumption|(simp only [GSB,Nat.reduceEqDiff,reduceIte];done)|omega|(with_reducible decide)|(simp only [DSB,Go.Proofs.YtdfgdpjlbcnkfaaGreatDoorAbs.oneC,Nat.reduceAdd,Nat.reduceLeDiff] <;> omega)|fail) only [↓DN,↓reduceIte,UP,CGB,Int.reduceEq,Int.reduceLT,Int.reduceLE,Nat.reduceEqDiff,Nat.reduceAdd,Nat.reduceMul,Nat.reduceSub,Int.reduceToNat,Nat.reduceLeDiff,PF,isStop,isP,goInt,beq_self_eq_true,decide_true,decide_false,Int.toNat_natCast,Int.natCast_zero,e0,hsz,dl,hix,hsl,hbb]) | ((with_reducible refine CB_intro (fun ht=>hcA ?_) (fun ht=>hcB ?_)) <;> (first|(simp only [Bool.true_eq_false,Bool.false_eq_true] at ht;done)|((try simp only [Bool.not_eq_true',Bool.not_eq_false'] at ht);(try simp only [ht]);(try simp only [HTN] at ht);(try (exfalso;omega))))) | ((with_reducible refine W_regionI ?_);simp only [List.append_eq,List.cons_append,List.nil_append]) | (with_reducible refine O_splitG fun cA cB hcA hcB=>?_) | ((refine ⟨t.length,by simp,t,by simp only [EVB,Nat.reduceEqDiff,reduceIte],rfl,by simp only [List.length_cons] at hle;omega,by rw [← hdw,List.dropWhile_cons_of_pos hb],rfl⟩)))
  have hl:l.dropWhile blP=l:=by
    cases l with
    | nil=>rfl
    | cons x t=>exact List.dropWhile_cons_of_neg (fun q=>hB ⟨x,t,rfl,q⟩)
  have hr:rdw l=rdw (l0.dropWhile blP):=by rw [← hdw,hl]
  have hstop:decide ((0:Int)<((l.length:Nat):Int))=false∨(decide ((0:Int)<((l.length:Nat):Int))=true∧∃ x:UInt8,ixX Tryz.prog 9 (.string ⟨l.toArray⟩) (.int .i64 0)=some (.int .u8 ((x.toNat:Nat):Int))∧rblB ((x.toNat:Nat):Int)=false):=by
    cases l with
    | nil=>exact .inl rfl
    | cons x t =>
      refine .inr ⟨decide_eq_true (by simp only [List.length_cons];omega),x,?_,?_⟩
      · rw [ixX_string _ _ _ _ u9 (by decide) (by rw [hsz];simp only [List.length_cons];omega)];rfl
      · rw [blP_rbl]
        cases q:blP x with
        | false=>rfl
        | true=>exact absurd ⟨x,t,rfl,q⟩ hB
  rcases hstop with dl|⟨dl,x,hix,hbb⟩
  case' inl=>repeat' (first | (with_reducible first|refine W_pushC fun K hK=>?_|refine W_blockI ?_|refine W_scopeI ?_|refine W_labelI ?_|refine W_skipI ?_|refine W_retI ?_|refine W_exitI ?_|refine then_normalI ?_|refine then_retI ?_|refine then_exitI ?_|refine inBlock_normalI ?_|refine inBlock_retI ?_|refine inBlock_exitI ?_|refine inBlock_exitN (by decide) ?_) | ((with_reducible first|refine bodyQ_normal0 ?_|refine bodyQ_normal1 ?_|refine bodyQ_normal2 ?_|refine bodyQ_normal3 ?_|refine bodyQ_normal4 ?_|refine bodyQ_ret0 ?_|refine bodyQ_ret1 ?_|refine bodyQ_ret2 ?_|refine bodyQ_ret3 ?_|refine bodyQ_ret4 ?_);(try simp only [EVB,Nat.reduceEqDiff,reduceIte])) | (with_reducible refine Cont.use (by assumption) ?_) | (with_reducible first|refine hcA ?_|refine hcB ?_) | ((with_reducible first|refine W_condG fun cA cB hcA hcB=>?_|refine W_regionI ?_|show O _ _ _ _ _ _ _ _|show OK _ _ _ _ _ _ _ _ _|show OKF _ _ _ _ _ _ _ _ _ _|show OKT _ _ _ _ _ _ _ _ _ _ _ _|show _∧_|show CG _ _ _|show CB _ _ _);simp (disch:=first|((with_reducible show isStop _=false);rfl)|((with_reducible show isP _=true);rfl)|((with_reducible show (isStop _ || isP _)=false);rfl)|assumption|(simp only [GSB,Nat.reduceEqDiff,reduceIte];done)|omega|(with_reducible decide)|(simp only [DSB,Go.Proofs.YtdfgdpjlbcnkfaaGreatDoorAbs.oneC,Nat.reduceAdd,Nat.reduceLeDiff] <;> omega)|fail) only [↓DN,↓reduceIte,UP,CGB,Int.reduceEq,Int.reduceLT,Int.reduceLE,Nat.reduceEqDiff,Nat.reduceAdd,Nat.reduceMul,Nat.reduceSub,Int.reduceToNat,Nat.reduceLeDiff,PF,isStop,isP,goInt,beq_self_eq_true,decide_true,decide_false,Int.toNat_natCast,Int.natCast_zero,e0,hsz,dl]) | ((with_reducible refine CB_intro (fun ht=>hcA ?_) (fun ht=>hcB ?_)) <;> (first|(simp only [Bool.true_eq_false,Bool.false_eq_true] at ht;done)|((try simp only [Bool.not_eq_true',Bool.not_eq_false'] at ht);(try simp only [ht]);(try simp only [HTN] at ht);(try (exfalso;omega))))) | ((with_reducible refine W_regionI ?_);simp only [List.append_eq,List.cons_append,List.nil_append]) | (with_reducible refine O_splitG fun cA cB hcA hcB=>?_))
  case' inr=>repeat' (first | (with_reducible first|refine W_pushC fun K hK=>?_|refine W_blockI ?_|refine W_scopeI ?_|refine W_labelI ?_|refine W_skipI ?_|refine W_retI ?_|refine W_exitI ?_|refine then_normalI ?_|refine then_retI ?_|refine then_exitI ?_|refine inBlock_normalI ?_|refine inBlock_retI ?_|refine inBlock_exitI ?_|refine inBlock_exitN (by decide) ?_) | ((with_reducible first|refine bodyQ_normal0 ?_|refine bodyQ_normal1 ?_|refine bodyQ_normal2 ?_|refine bodyQ_normal3 ?_|refine bodyQ_normal4 ?_|refine bodyQ_ret0 ?_|refine bodyQ_ret1 ?_|refine bodyQ_ret2 ?_|refine bodyQ_ret3 ?_|refine bodyQ_ret4 ?_);(try simp only [EVB,Nat.reduceEqDiff,reduceIte])) | ((with_reducible show C _ _ _ _ _ _);first|(refine RBlank_C h2 ?_)) | (with_reducible refine Cont.use (by assumption) ?_) | (with_reducible first|refine hcA ?_|refine hcB ?_) | ((with_reducible first|refine W_condG fun cA cB hcA hcB=>?_|refine W_regionI ?_|show O _ _ _ _ _ _ _ _|show OK _ _ _ _ _ _ _ _ _|show OKF _ _ _ _ _ _ _ _ _ _|show OKT _ _ _ _ _ _ _ _ _ _ _ _|show _∧_|show CG _ _ _|show CB _ _ _);simp (disch:=first|((with_reducible show isStop _=false);rfl)|((with_reducible show isP _=true);rfl)|((with_reducible show (isStop _ || isP _)=false);rfl)|assumption|(simp only [GSB,Nat.reduceEqDiff,reduceIte];done)|omega|(with_reducible decide)|(simp only [DSB,Go.Proofs.YtdfgdpjlbcnkfaaGreatDoorAbs.oneC,Nat.reduceAdd,Nat.reduceLeDiff] <;> omega)|fail) only [↓DN,↓reduceIte,UP,CGB,Int.reduceEq,Int.reduceLT,Int.reduceLE,Nat.reduceEqDiff,Nat.reduceAdd,Nat.reduceMul,Nat.reduceSub,Int.reduceToNat,Nat.reduceLeDiff,PF,isStop,isP,goInt,beq_self_eq_true,decide_true,decide_false,Int.toNat_natCast,Int.natCast_zero,e0,hsz,dl,hix,hbb]) | ((with_reducible refine CB_intro (fun ht=>hcA ?_) (fun ht=>hcB ?_)) <;> (first|(simp only [Bool.true_eq_false,Bool.false_eq_true] at ht;done)|((try simp only [Bool.not_eq_true',Bool.not_eq_false'] at ht);(try simp only [ht]);(try simp only [HTN] at ht);(try (exfalso;omega))))) | ((with_reducible refine W_regionI ?_);simp only [List.append_eq,List.cons_append,List.nil_append]) | (with_reducible refine O_splitG fun cA cB hcA hcB=>?_))
  all_goals refine W_loop (fun n e S1'=>∃ l:List UInt8,e.get 0=.string ⟨l.toArray⟩∧n=l.length∧l.length≤l0.length∧rdw l=rdw (l0.dropWhile blP)∧S1'=S1) l.length ⟨l,by simp only [EVB,Nat.reduceEqDiff,reduceIte,e0],rfl,hle,hr,rfl⟩ ?_
  all_goals (
    rintro n e S2 ⟨m,e0,rfl,hle,hr,rfl⟩
    by_cases hB2:∃ t x,m=t ++ [x]∧blP x=true
    · obtain ⟨t,x,rfl,hb⟩:=hB2
      have hlen:(t ++ [x]).length=t.length+1:=by simp
      have dl:decide ((0:Int)<(((t ++ [x]).length:Nat):Int))=true:=decide_eq_true (by omega)
      have w1:IntKind.i64.wrap ((((t ++ [x]).length:Nat):Int) - 1)=((t.length:Nat):Int):=by rw [Go.Proofs.YtdfgdpjlbcnkfaaGreatDoorAbs.wp64 (by omega) (by omega)];omega
      have hix:ixX Tryz.prog 9 (.string ⟨(t ++ [x]).toArray⟩) (.int .i64 ((t.length:Nat):Int))=some (.int .u8 ((x.toNat:Nat):Int)):=by
        rw [ixX_string _ _ _ _ u9 (by omega) (by rw [hsz];omega)];simp
      have hsl:ssX Tryz.prog 9 (.string ⟨(t ++ [x]).toArray⟩) none (some (.int .i64 ((t.length:Nat):Int))) none=some (.string ⟨t.toArray⟩):=by
        rw [ssX_h _ _ _ _ u9 (by omega) (by rw [hsz];omega)]
        congr 2
        apply ByteArray.ext
        apply Array.ext'
        simp
      have hbb:rblB ((x.toNat:Nat):Int)=true:=by rw [blP_rbl,hb]
      have hrt:rdw t=rdw (l0.dropWhile blP):=by rw [← hr];simp [rdw,hb]
      repeat' (first | (with_reducible first|refine W_pushC fun K hK=>?_|refine W_blockI ?_|refine W_scopeI ?_|refine W_labelI ?_|refine W_skipI ?_|refine W_retI ?_|refine W_exitI ?_|refine then_normalI ?_|refine then_retI ?_|refine then_exitI ?_|refine inBlock_normalI ?_|refine inBlock_retI ?_|refine inBlock_exitI ?_|refine inBlock_exitN (by decide) ?_) | ((with_reducible first|refine bodyQ_normal0 ?_|refine bodyQ_normal1 ?_|refine bodyQ_normal2 ?_|refine bodyQ_normal3 ?_|refine bodyQ_normal4 ?_|refine bodyQ_ret0 ?_|refine bodyQ_ret1 ?_|refine bodyQ_ret2 ?_|refine bodyQ_ret3 ?_|refine bodyQ_ret4 ?_);(try simp only [EVB,Nat.reduceEqDiff,reduceIte])) | ((with_reducible show C _ _ _ _ _ _);first|(refine RBlank_C h2 ?_)) | (with_reducible refine Cont.use (by assumption) ?_) | (with_reducible first|refine hcA ?_|refine hcB ?_) | ((with_reducible first|refine W_condG fun cA cB hcA hcB=>?_|refine W_regionI ?_|show O _ _ _ _ _ _ _ _|show OK _ _ _ _ _ _ _ _ _|show OKF _ _ _ _ _ _ _ _ _ _|show OKT _ _ _ _ _ _ _ _ _ _ _ _|show _∧_|show CG _ _ _|show CB _ _ _);simp (disch:=first|((with_reducible show isStop _=false);rfl)|((with_reducible show isP _=true);rfl)|((with_reducible show (isStop _ || isP _)=false);rfl)|assumption|(simp only [GSB,Nat.reduceEqDiff,reduceIte];done)|omega|(with_reducible decide)|(simp only [DSB,Go.Proofs.YtdfgdpjlbcnkfaaGreatDoorAbs.oneC,Nat.reduceAdd,Nat.reduceLeDiff] <;> omega)|fail) only [↓DN,↓reduceIte,UP,CGB,Int.reduceEq,Int.reduceLT,Int.reduceLE,Nat.reduceEqDiff,Nat.reduceAdd,Nat.reduceMul,Nat.reduceSub,Int.reduceToNat,Nat.reduceLeDiff,PF,isStop,isP,goInt,beq_self_eq_true,decide_true,decide_false,Int.toNat_natCast,Int.natCast_zero,e0,hsz,dl,w1,hix,hsl,hbb]) | ((with_reducible refine CB_intro (fun ht=>hcA ?_) (fun ht=>hcB ?_)) <;> (first|(simp only [Bool.true_eq_false,Bool.false_eq_true] at ht;done)|((try simp only [Bool.not_eq_true',Bool.not_eq_false'] at ht);(try simp only [ht]);(try simp only [HTN] at ht);(try (exfalso;omega))))) | ((with_reducible refine W_regionI ?_);simp only [List.append_eq,List.cons_append,List.nil_append]) | (with_reducible refine O_splitG fun cA cB hcA hcB=>?_) | ((refine ⟨t.length,by omega,t,by simp only [EVB,Nat.reduceEqDiff,reduceIte],rfl,by omega,hrt,rfl⟩)))
    have hm:rdw m=m:=by
      rcases List.eq_nil_or_concat m with rfl|⟨t,x,rfl⟩
      · rfl
      · have hx:¬ blP x=true:=fun q=>hB2 ⟨t,x,by simp,q⟩
        simp [rdw,hx]
    have hQ':Q (.string ⟨m.toArray⟩) S2:=by rw [← hr,hm] at hQ;exact hQ
    have hstop2:decide ((0:Int)<((m.length:Nat):Int))=false∨(decide ((0:Int)<((m.length:Nat):Int))=true∧∃ x:UInt8,ixX Tryz.prog 9 (.string ⟨m.toArray⟩) (.int .i64 (IntKind.i64.wrap (((m.length:Nat):Int) - 1)))=some (.int .u8 ((x.toNat:Nat):Int))∧rblB ((x.toNat:Nat):Int)=false):=by
      rcases List.eq_nil_or_concat m with rfl|⟨t,x,rfl⟩
      · exact .inl rfl
      · have hlen:(t ++ [x]).length=t.length+1:=by simp
        rw [List.concat_eq_append] at *
        refine .inr ⟨decide_eq_true (by omega),x,?_,?_⟩
        · have w1:IntKind.i64.wrap ((((t ++ [x]).length:Nat):Int) - 1)=((t.length:Nat):Int):=by rw [Go.Proofs.YtdfgdpjlbcnkfaaGreatDoorAbs.wp64 (by omega) (by omega)];omega
          rw [w1,ixX_string _ _ _ _ u9 (by omega) (by rw [hsz];omega)];simp
        · rw [blP_rbl]
          cases q:blP x with
          | false=>rfl
          | true=>exact absurd ⟨t,x,rfl,q⟩ hB2
    rcases hstop2 with dl|⟨dl,x,hix,hbb⟩
    · repeat' (first | (with_reducible first|refine W_pushC fun K hK=>?_|refine W_blockI ?_|refine W_scopeI ?_|refine W_labelI ?_|refine W_skipI ?_|refine W_retI ?_|refine W_exitI ?_|refine then_normalI ?_|refine then_retI ?_|refine then_exitI ?_|refine inBlock_normalI ?_|refine inBlock_retI ?_|refine inBlock_exitI ?_|refine inBlock_exitN (by decide) ?_) | ((with_reducible first|refine bodyQ_normal0 ?_|refine bodyQ_normal1 ?_|refine bodyQ_normal2 ?_|refine bodyQ_normal3 ?_|refine bodyQ_normal4 ?_|refine bodyQ_ret0 ?_|refine bodyQ_ret1 ?_|refine bodyQ_ret2 ?_|refine bodyQ_ret3 ?_|refine bodyQ_ret4 ?_);(try simp only [EVB,Nat.reduceEqDiff,reduceIte])) | (with_reducible refine Cont.use (by assumption) ?_) | (with_reducible first|refine hcA ?_|refine hcB ?_) | ((with_reducible first|refine W_condG fun cA cB hcA hcB=>?_|refine W_regionI ?_|show O _ _ _ _ _ _ _ _|show OK _ _ _ _ _ _ _ _ _|show OKF _ _ _ _ _ _ _ _ _ _|show OKT _ _ _ _ _ _ _ _ _ _ _ _|show _∧_|show CG _ _ _|show CB _ _ _);simp (disch:=first|((with_reducible show isStop _=false);rfl)|((with_reducible show isP _=true);rfl)|((with_reducible show (isStop _ || isP _)=false);rfl)|assumption|(simp only [GSB,Nat.reduceEqDiff,reduceIte];done)|omega|(with_reducible decide)|(simp only [DSB,Go.Proofs.YtdfgdpjlbcnkfaaGreatDoorAbs.oneC,Nat.reduceAdd,Nat.reduceLeDiff] <;> omega)|fail) only [↓DN,↓reduceIte,UP,CGB,Int.reduceEq,Int.reduceLT,Int.reduceLE,Nat.reduceEqDiff,Nat.reduceAdd,Nat.reduceMul,Nat.reduceSub,Int.reduceToNat,Nat.reduceLeDiff,PF,isStop,isP,goInt,beq_self_eq_true,decide_true,decide_false,Int.toNat_natCast,Int.natCast_zero,e0,hsz,dl]) | ((with_reducible refine CB_intro (fun ht=>hcA ?_) (fun ht=>hcB ?_)) <;> (first|(simp only [Bool.true_eq_false,Bool.false_eq_true] at ht;done)|((try simp only [Bool.not_eq_true',Bool.not_eq_false'] at ht);(try simp only [ht]);(try simp only [HTN] at ht);(try (exfalso;omega))))) | ((with_reducible refine W_regionI ?_);simp only [List.append_eq,List.cons_append,List.nil_append]) | (with_reducible refine O_splitG fun cA cB hcA hcB=>?_) | (exact hQ'))
    · repeat' (first | (with_reducible first|refine W_pushC fun K hK=>?_|refine W_blockI ?_|refine W_scopeI ?_|refine W_labelI ?_|refine W_skipI ?_|refine W_retI ?_|refine W_exitI ?_|refine then_normalI ?_|refine then_retI ?_|refine then_exitI ?_|refine inBlock_normalI ?_|refine inBlock_retI ?_|refine inBlock_exitI ?_|refine inBlock_exitN (by decide) ?_) | ((with_reducible first|refine bodyQ_normal0 ?_|refine bodyQ_normal1 ?_|refine bodyQ_normal2 ?_|refine bodyQ_normal3 ?_|refine bodyQ_normal4 ?_|refine bodyQ_ret0 ?_|refine bodyQ_ret1 ?_|refine bodyQ_ret2 ?_|refine bodyQ_ret3 ?_|refine bodyQ_ret4 ?_);(try simp only [EVB,Nat.reduceEqDiff,reduceIte])) | ((with_reducible show C _ _ _ _ _ _);first|(refine RBlank_C h2 ?_)) | (with_reducible refine Cont.use (by assumption) ?_) | (with_reducible first|refine hcA ?_|refine hcB ?_) | ((with_reducible first|refine W_condG fun cA cB hcA hcB=>?_|refine W_regionI ?_|show O _ _ _ _ _ _ _ _|show OK _ _ _ _ _ _ _ _ _|show OKF _ _ _ _ _ _ _ _ _ _|show OKT _ _ _ _ _ _ _ _ _ _ _ _|show _∧_|show CG _ _ _|show CB _ _ _);simp (disch:=first|((with_reducible show isStop _=false);rfl)|((with_reducible show isP _=true);rfl)|((with_reducible show (isStop _ || isP _)=false);rfl)|assumption|(simp only [GSB,Nat.reduceEqDiff,reduceIte];done)|omega|(with_reducible decide)|(simp only [DSB,Go.Proofs.YtdfgdpjlbcnkfaaGreatDoorAbs.oneC,Nat.reduceAdd,Nat.reduceLeDiff] <;> omega)|fail) only [↓DN,↓reduceIte,UP,CGB,Int.reduceEq,Int.reduceLT,Int.reduceLE,Nat.reduceEqDiff,Nat.reduceAdd,Nat.reduceMul,Nat.reduceSub,Int.reduceToNat,Nat.reduceLeDiff,PF,isStop,isP,goInt,beq_self_eq_true,decide_true,decide_false,Int.toNat_natCast,Int.natCast_zero,e0,hsz,dl,hix,hbb]) | ((with_reducible refine CB_intro (fun ht=>hcA ?_) (fun ht=>hcB ?_)) <;> (first|(simp only [Bool.true_eq_false,Bool.false_eq_true] at ht;done)|((try simp only [Bool.not_eq_true',Bool.not_eq_false'] at ht);(try simp only [ht]);(try simp only [HTN] at ht);(try (exfalso;omega))))) | ((with_reducible refine W_regionI ?_);simp only [List.append_eq,List.cons_append,List.nil_append]) | (with_reducible refine O_splitG fun cA cB hcA hcB=>?_) | (exact hQ')))
end
end Go.Proofs.YtdfgdpjlbcnkfaaGreatDoor.Q
namespace Go.Proofs.YtdfgdpjlbcnkfaaGreatDoor.Q
open Go Go.Proofs.YtdfgdpjlbcnkfaaGreatDoorAbs Go.Proofs
set_option linter.unusedVariables false
set_option linter.unusedSimpArgs false
set_option maxRecDepth 100000
set_option maxHeartbeats 4000000
attribute [local irreducible] YtdfgdpjlbcnkfaaGreatDoorAbs.O YtdfgdpjlbcnkfaaGreatDoorAbs.W YtdfgdpjlbcnkfaaGreatDoorAbs.C YtdfgdpjlbcnkfaaGreatDoorAbs.OK YtdfgdpjlbcnkfaaGreatDoorAbs.OKF YtdfgdpjlbcnkfaaGreatDoorAbs.OKT YtdfgdpjlbcnkfaaGreatDoorAbs.then_ YtdfgdpjlbcnkfaaGreatDoorAbs.inBlock_ YtdfgdpjlbcnkfaaGreatDoorAbs.bodyQ YtdfgdpjlbcnkfaaGreatDoorAbs.Cont
section
variable {I:Prims} {S:St} {Q:Value→St→Prop}
def validB (k l:Int):Bool:=if k=1 then decide (0≤l) && decide (l≤1099511627776) else if k=0∨k=2∨k=3 then decide (l=0) else false
theorem valid_C (h:HI I) {k l:Int} (hQ:∀ S',Kept S S' none→Q (.bool (validB k l)) S'):C Tryz.prog I 32 #[.agg #[.int .i64 k,.int .i64 l]] S Q:=by
  refine C_body (rs:=[.tmp 2]) (h.no 32 (by decide)) Tryz.func32 rfl rfl ok32 ?_
  obtain ⟨sz23,u24,sz5,u5,u9,u3,sz36,sz3,sz44,u37,sz34,u34,sz24,sz4,u4,sz58,u58,sz65,sz63,u63,sz42,sz26,u40,sz74,sz40,sz78,u83,sz81,sz9,sz92,sz89,u89,sz90,u90,u108,sz115,u115,sz133,u133,u138,u21,u145,u148,sz147⟩:=UF
  repeat' (first | (with_reducible first|refine W_pushC fun K hK=>?_|refine W_blockI ?_|refine W_scopeI ?_|refine W_labelI ?_|refine W_skipI ?_|refine W_retI ?_|refine W_exitI ?_|refine then_normalI ?_|refine then_retI ?_|refine then_exitI ?_|refine inBlock_normalI ?_|refine inBlock_retI ?_|refine inBlock_exitI ?_|refine inBlock_exitN (by decide) ?_) | ((with_reducible first|refine bodyQ_normal0 ?_|refine bodyQ_normal1 ?_|refine bodyQ_normal2 ?_|refine bodyQ_normal3 ?_|refine bodyQ_normal4 ?_|refine bodyQ_ret0 ?_|refine bodyQ_ret1 ?_|refine bodyQ_ret2 ?_|refine bodyQ_ret3 ?_|refine bodyQ_ret4 ?_);(try simp only [EVB,Nat.reduceEqDiff,reduceIte])) | (with_reducible refine Cont.use (by assumption) ?_) | (with_reducible first|refine hcA ?_|refine hcB ?_) | ((with_reducible first|refine W_condG fun cA cB hcA hcB=>?_|refine W_regionI ?_|show O _ _ _ _ _ _ _ _|show OK _ _ _ _ _ _ _ _ _|show OKF _ _ _ _ _ _ _ _ _ _|show OKT _ _ _ _ _ _ _ _ _ _ _ _|show _∧_|show CG _ _ _|show CB _ _ _);simp (disch:=first|((with_reducible show isStop _=false);rfl)|((with_reducible show isP _=true);rfl)|((with_reducible show (isStop _ || isP _)=false);rfl)|assumption|(simp only [GSB,Nat.reduceEqDiff,reduceIte];done)|omega|(with_reducible decide)|(simp only [DSB,Go.Proofs.YtdfgdpjlbcnkfaaGreatDoorAbs.oneC,Nat.reduceAdd,Nat.reduceLeDiff] <;> omega)|fail) only [↓DN,↓reduceIte,UP,CGB,Int.reduceEq,Int.reduceLT,Int.reduceLE,Nat.reduceEqDiff,Nat.reduceAdd,Nat.reduceMul,Nat.reduceSub,Int.reduceToNat,Nat.reduceLeDiff,PF,isStop,isP,goInt,beq_self_eq_true,decide_true,decide_false,Int.toNat_natCast,Int.natCast_zero,nn_eq,nn_ne]) | ((with_reducible refine CB_intro (fun ht=>hcA ?_) (fun ht=>hcB ?_)) <;> (first|(simp only [Bool.true_eq_false,Bool.false_eq_true] at ht;done)|((try simp only [Bool.not_eq_true',Bool.not_eq_false'] at ht);(try simp only [ht]);(try simp only [HTN] at ht);(try (exfalso;omega))))) | ((with_reducible refine W_regionI ?_);simp only [List.append_eq,List.cons_append,List.nil_append]) | (with_reducible refine O_splitG fun cA cB hcA hcB=>?_) | ((refine qq (hQ _ (Kept.push _ none)) ?_ rfl;grind [validB])))
end
end Go.Proofs.YtdfgdpjlbcnkfaaGreatDoor.Q
namespace Go.Proofs.YtdfgdpjlbcnkfaaGreatDoor.Q
open Go Go.Proofs.YtdfgdpjlbcnkfaaGreatDoorAbs Go.Proofs
set_option linter.unusedVariables false
set_option linter.unusedSimpArgs false
set_option maxRecDepth 100000
set_option maxHeartbeats 4000000
attribute [local irreducible] YtdfgdpjlbcnkfaaGreatDoorAbs.O YtdfgdpjlbcnkfaaGreatDoorAbs.W YtdfgdpjlbcnkfaaGreatDoorAbs.C YtdfgdpjlbcnkfaaGreatDoorAbs.OK YtdfgdpjlbcnkfaaGreatDoorAbs.OKF YtdfgdpjlbcnkfaaGreatDoorAbs.OKT YtdfgdpjlbcnkfaaGreatDoorAbs.then_ YtdfgdpjlbcnkfaaGreatDoorAbs.inBlock_ YtdfgdpjlbcnkfaaGreatDoorAbs.bodyQ YtdfgdpjlbcnkfaaGreatDoorAbs.Cont
def geB:Blk:=⟨[.iface 98 (.agg #[.pointer (some ⟨4,26,some 0⟩)])],0,false,0⟩
structure HB (I:Prims):Prop extends HW I where
  digits:∀ (S:St) (n:Int) (Q:Value→St→Prop),0≤n→n<18446744073709551616→(∀ s,Q (.string s) S)→C Tryz.prog I 42 #[.int .u64 n,.int .u64 10] S Q
  num13:∀ (S:St) (e:Option Int) (Q:Value→St→Prop),S.get 0=some geB→Q (.int .i64 (numF e)) S→C Tryz.prog I 7 #[errW e] S Q
  sure:∀ (S:St) (Q:Value→St→Prop),Q (.bool true) S→C Tryz.prog I 8 #[] S Q
section
variable {I:Prims} {S:St} {Q:Value→St→Prop}
theorem Text_C (h:HB I) {n:Int} (h0:0≤n) (h1:n≤9223372036854775807) (hQ:∀ s,Q (.string s) S):C Tryz.prog I 34 #[.int .i64 n] S Q:=by
  refine C_body (rs:=[.tmp 2]) (h.no 34 (by decide)) Tryz.func34 rfl rfl ok34 ?_
  obtain ⟨sz23,u24,sz5,u5,u9,u3,sz36,sz3,sz44,u37,sz34,u34,sz24,sz4,u4,sz58,u58,sz65,sz63,u63,sz42,sz26,u40,sz74,sz40,sz78,u83,sz81,sz9,sz92,sz89,u89,sz90,u90,u108,sz115,u115,sz133,u133,u138,u21,u145,u148,sz147⟩:=UF
  have hd:decide (n<0)=false:=decide_eq_false (by omega)
  have w:IntKind.u64.wrap n=n:=Go.Proofs.YtdfgdpjlbcnkfaaGreatDoorAbs.wpu64 h0 (by omega)
  repeat' (first | (with_reducible first|refine W_pushC fun K hK=>?_|refine W_blockI ?_|refine W_scopeI ?_|refine W_labelI ?_|refine W_skipI ?_|refine W_retI ?_|refine W_exitI ?_|refine then_normalI ?_|refine then_retI ?_|refine then_exitI ?_|refine inBlock_normalI ?_|refine inBlock_retI ?_|refine inBlock_exitI ?_|refine inBlock_exitN (by decide) ?_) | ((with_reducible first|refine bodyQ_normal0 ?_|refine bodyQ_normal1 ?_|refine bodyQ_normal2 ?_|refine bodyQ_normal3 ?_|refine bodyQ_normal4 ?_|refine bodyQ_ret0 ?_|refine bodyQ_ret1 ?_|refine bodyQ_ret2 ?_|refine bodyQ_ret3 ?_|refine bodyQ_ret4 ?_);(try simp only [EVB,Nat.reduceEqDiff,reduceIte])) | ((with_reducible show C _ _ _ _ _ _);first|(refine h.digits _ _ _ h0 (by omega) (fun s=>?_))) | (with_reducible refine Cont.use (by assumption) ?_) | (with_reducible first|refine hcA ?_|refine hcB ?_) | ((with_reducible first|refine W_condG fun cA cB hcA hcB=>?_|refine W_regionI ?_|show O _ _ _ _ _ _ _ _|show OK _ _ _ _ _ _ _ _ _|show OKF _ _ _ _ _ _ _ _ _ _|show OKT _ _ _ _ _ _ _ _ _ _ _ _|show _∧_|show CG _ _ _|show CB _ _ _);simp (disch:=first|((with_reducible show isStop _=false);rfl)|((with_reducible show isP _=true);rfl)|((with_reducible show (isStop _ || isP _)=false);rfl)|assumption|(simp only [GSB,Nat.reduceEqDiff,reduceIte];done)|omega|(with_reducible decide)|(simp only [DSB,Go.Proofs.YtdfgdpjlbcnkfaaGreatDoorAbs.oneC,Nat.reduceAdd,Nat.reduceLeDiff] <;> omega)|fail) only [↓DN,↓reduceIte,UP,CGB,Int.reduceEq,Int.reduceLT,Int.reduceLE,Nat.reduceEqDiff,Nat.reduceAdd,Nat.reduceMul,Nat.reduceSub,Int.reduceToNat,Nat.reduceLeDiff,PF,isStop,isP,goInt,beq_self_eq_true,decide_true,decide_false,Int.toNat_natCast,Int.natCast_zero,nn_eq,nn_ne,hd,w]) | ((with_reducible refine CB_intro (fun ht=>hcA ?_) (fun ht=>hcB ?_)) <;> (first|(simp only [Bool.true_eq_false,Bool.false_eq_true] at ht;done)|((try simp only [Bool.not_eq_true',Bool.not_eq_false'] at ht);(try simp only [ht]);(try simp only [HTN] at ht);(try (exfalso;omega))))) | ((with_reducible refine W_regionI ?_);simp only [List.append_eq,List.cons_append,List.nil_append]) | (with_reducible refine O_splitG fun cA cB hcA hcB=>?_) | (exact hQ _))
theorem Fields_C (h:HB I) {k l:Int} (hQ0:validB k l=false→∀ S',Kept S S' none→Q (.tuple #[.slice none 0 0,.iface 58 (.int .i64 1)]) S') (hQ1:validB k l=true→∀ v S',Kept S S' none→Q (.tuple #[v,.nilIface]) S') :
    C Tryz.prog I 21 #[.slice none 0 0,.agg #[.int .i64 k,.int .i64 l]] S Q:=by
  refine C_body (rs:=[.tmp 4,.tmp 5]) (h.no 21 (by decide)) Tryz.func21 rfl rfl ok21 ?_
  obtain ⟨sz23,u24,sz5,u5,u9,u3,sz36,sz3,sz44,u37,sz34,u34,sz24,sz4,u4,sz58,u58,sz65,sz63,u63,sz42,sz26,u40,sz74,sz40,sz78,u83,sz81,sz9,sz92,sz89,u89,sz90,u90,u108,sz115,u115,sz133,u133,u138,u21,u145,u148,sz147⟩:=UF
  cases hv:validB k l
  · repeat' (first | (with_reducible first|refine W_pushC fun K hK=>?_|refine W_blockI ?_|refine W_scopeI ?_|refine W_labelI ?_|refine W_skipI ?_|refine W_retI ?_|refine W_exitI ?_|refine then_normalI ?_|refine then_retI ?_|refine then_exitI ?_|refine inBlock_normalI ?_|refine inBlock_retI ?_|refine inBlock_exitI ?_|refine inBlock_exitN (by decide) ?_) | ((with_reducible first|refine bodyQ_normal0 ?_|refine bodyQ_normal1 ?_|refine bodyQ_normal2 ?_|refine bodyQ_normal3 ?_|refine bodyQ_normal4 ?_|refine bodyQ_ret0 ?_|refine bodyQ_ret1 ?_|refine bodyQ_ret2 ?_|refine bodyQ_ret3 ?_|refine bodyQ_ret4 ?_);(try simp only [EVB,Nat.reduceEqDiff,reduceIte])) | ((with_reducible show C _ _ _ _ _ _);first|(refine valid_C h.toHI (fun S1 hK1=>?_))) | (with_reducible refine Cont.use (by assumption) ?_) | (with_reducible first|refine hcA ?_|refine hcB ?_) | ((with_reducible first|refine W_condG fun cA cB hcA hcB=>?_|refine W_regionI ?_|show O _ _ _ _ _ _ _ _|show OK _ _ _ _ _ _ _ _ _|show OKF _ _ _ _ _ _ _ _ _ _|show OKT _ _ _ _ _ _ _ _ _ _ _ _|show _∧_|show CG _ _ _|show CB _ _ _);simp (disch:=first|((with_reducible show isStop _=false);rfl)|((with_reducible show isP _=true);rfl)|((with_reducible show (isStop _ || isP _)=false);rfl)|assumption|(simp only [GSB,Nat.reduceEqDiff,reduceIte];done)|omega|(with_reducible decide)|(simp only [DSB,Go.Proofs.YtdfgdpjlbcnkfaaGreatDoorAbs.oneC,Nat.reduceAdd,Nat.reduceLeDiff] <;> omega)|fail) only [↓DN,↓reduceIte,UP,CGB,Int.reduceEq,Int.reduceLT,Int.reduceLE,Nat.reduceEqDiff,Nat.reduceAdd,Nat.reduceMul,Nat.reduceSub,Int.reduceToNat,Nat.reduceLeDiff,PF,isStop,isP,goInt,beq_self_eq_true,decide_true,decide_false,Int.toNat_natCast,Int.natCast_zero,nn_eq,nn_ne,hv]) | ((with_reducible refine CB_intro (fun ht=>hcA ?_) (fun ht=>hcB ?_)) <;> (first|(simp only [Bool.true_eq_false,Bool.false_eq_true] at ht;done)|((try simp only [Bool.not_eq_true',Bool.not_eq_false'] at ht);(try simp only [ht]);(try simp only [HTN] at ht);(try (exfalso;omega))))) | ((with_reducible refine W_regionI ?_);simp only [List.append_eq,List.cons_append,List.nil_append]) | (with_reducible refine O_splitG fun cA cB hcA hcB=>?_) | (exact hQ0 hv _ ((Kept.push _ none).trans hK1)))
  repeat' (first | (with_reducible first|refine W_pushC fun K hK=>?_|refine W_blockI ?_|refine W_scopeI ?_|refine W_labelI ?_|refine W_skipI ?_|refine W_retI ?_|refine W_exitI ?_|refine then_normalI ?_|refine then_retI ?_|refine then_exitI ?_|refine inBlock_normalI ?_|refine inBlock_retI ?_|refine inBlock_exitI ?_|refine inBlock_exitN (by decide) ?_) | ((with_reducible first|refine bodyQ_normal0 ?_|refine bodyQ_normal1 ?_|refine bodyQ_normal2 ?_|refine bodyQ_normal3 ?_|refine bodyQ_normal4 ?_|refine bodyQ_ret0 ?_|refine bodyQ_ret1 ?_|refine bodyQ_ret2 ?_|refine bodyQ_ret3 ?_|refine bodyQ_ret4 ?_);(try simp only [EVB,Nat.reduceEqDiff,reduceIte])) | ((with_reducible show C _ _ _ _ _ _);first|(refine valid_C h.toHI (fun S1 hK1=>?_))) | (with_reducible refine Cont.use (by assumption) ?_) | (with_reducible first|refine hcA ?_|refine hcB ?_) | ((with_reducible first|refine W_condG fun cA cB hcA hcB=>?_|refine W_regionI ?_|show O _ _ _ _ _ _ _ _|show OK _ _ _ _ _ _ _ _ _|show OKF _ _ _ _ _ _ _ _ _ _|show OKT _ _ _ _ _ _ _ _ _ _ _ _|show _∧_|show CG _ _ _|show CB _ _ _);simp (disch:=first|((with_reducible show isStop _=false);rfl)|((with_reducible show isP _=true);rfl)|((with_reducible show (isStop _ || isP _)=false);rfl)|assumption|(simp only [GSB,Nat.reduceEqDiff,reduceIte];done)|omega|(with_reducible decide)|(simp only [DSB,Go.Proofs.YtdfgdpjlbcnkfaaGreatDoorAbs.oneC,Nat.reduceAdd,Nat.reduceLeDiff] <;> omega)|fail) only [↓DN,↓reduceIte,UP,CGB,Int.reduceEq,Int.reduceLT,Int.reduceLE,Nat.reduceEqDiff,Nat.reduceAdd,Nat.reduceMul,Nat.reduceSub,Int.reduceToNat,Nat.reduceLeDiff,PF,isStop,isP,goInt,beq_self_eq_true,decide_true,decide_false,Int.toNat_natCast,Int.natCast_zero,nn_eq,nn_ne,hv]) | ((with_reducible refine CB_intro (fun ht=>hcA ?_) (fun ht=>hcB ?_)) <;> (first|(simp only [Bool.true_eq_false,Bool.false_eq_true] at ht;done)|((try simp only [Bool.not_eq_true',Bool.not_eq_false'] at ht);(try simp only [ht]);(try simp only [HTN] at ht);(try (exfalso;omega))))) | ((with_reducible refine W_regionI ?_);simp only [List.append_eq,List.cons_append,List.nil_append]) | (with_reducible refine O_splitG fun cA cB hcA hcB=>?_))
  have g1:S1.get S.next=some ⟨[.int .i64 k,.int .i64 l],23,true,0⟩:=(hK1.2 S.next (Nat.lt_succ_self _) (by simp)).trans (S.get_push_self _)
  have kk:Kept S S1 none:=(Kept.push _ none).trans hK1
  have hl1:k=1→0≤l∧l≤1099511627776:=fun q=>by subst q;simpa [validB] using hv
  refine W_loop (fun n e S'=>e.get 3=.pointer (some ⟨S.next,0,some 2⟩)∧e.get 6=.slice none 0 0∧e.get 14=.int .i64 0∧e.get 15=.int .i64 0∧S'=S1) 0 ⟨by simp only [EVB,Nat.reduceEqDiff,reduceIte],by simp only [EVB,Nat.reduceEqDiff,reduceIte],by simp only [EVB,Nat.reduceEqDiff,reduceIte],by simp only [EVB,Nat.reduceEqDiff,reduceIte],rfl⟩ ?_
  rintro n e S1' ⟨e3,e6,e14,e15,rfl⟩
  by_cases k1:k=1
  · have hl2:=hl1 k1
    subst k1
    repeat' (first | (with_reducible first|refine W_pushC fun K hK=>?_|refine W_blockI ?_|refine W_scopeI ?_|refine W_labelI ?_|refine W_skipI ?_|refine W_retI ?_|refine W_exitI ?_|refine then_normalI ?_|refine then_retI ?_|refine then_exitI ?_|refine inBlock_normalI ?_|refine inBlock_retI ?_|refine inBlock_exitI ?_|refine inBlock_exitN (by decide) ?_) | ((with_reducible first|refine bodyQ_normal0 ?_|refine bodyQ_normal1 ?_|refine bodyQ_normal2 ?_|refine bodyQ_normal3 ?_|refine bodyQ_normal4 ?_|refine bodyQ_ret0 ?_|refine bodyQ_ret1 ?_|refine bodyQ_ret2 ?_|refine bodyQ_ret3 ?_|refine bodyQ_ret4 ?_);(try simp only [EVB,Nat.reduceEqDiff,reduceIte])) | ((with_reducible show C _ _ _ _ _ _);first|(refine Text_C h hl2.1 (by omega) (fun s=>?_))) | (with_reducible refine Cont.use (by assumption) ?_) | ((refine O_append (P:=Tryz.prog) (elem:=74) (size:=2) (bytes:=32) (n:=0) (m:=1) (xs:=[]) (ys:=[.string _,.string _]) u40 sz74 by74 ze74 ⟨by decide,by decide,rfl⟩ (by simp only [EVB,Nat.reduceEqDiff,reduceIte,e6];exact Own.nil _ _ _) (by simp only [EVB,Nat.reduceEqDiff,reduceIte];exact asrc_own_lit u40 (St.get_push_self _ _) (Nat.zero_le _) rfl rfl) ⟨rfl,rfl⟩ (by decide) (fun v1 S3 hO hKp hB=>?_));(simp only [EVB,Nat.reduceEqDiff,reduceIte,e6] at hKp)) | (with_reducible first|refine hcA ?_|refine hcB ?_) | ((with_reducible first|refine W_condG fun cA cB hcA hcB=>?_|refine W_regionI ?_|show O _ _ _ _ _ _ _ _|show OK _ _ _ _ _ _ _ _ _|show OKF _ _ _ _ _ _ _ _ _ _|show OKT _ _ _ _ _ _ _ _ _ _ _ _|show _∧_|show CG _ _ _|show CB _ _ _);simp (disch:=first|((with_reducible show isStop _=false);rfl)|((with_reducible show isP _=true);rfl)|((with_reducible show (isStop _ || isP _)=false);rfl)|assumption|(simp only [GSB,Nat.reduceEqDiff,reduceIte];done)|omega|(with_reducible decide)|(simp only [DSB,Go.Proofs.YtdfgdpjlbcnkfaaGreatDoorAbs.oneC,Nat.reduceAdd,Nat.reduceLeDiff] <;> omega)|fail) only [↓DN,↓reduceIte,UP,CGB,Int.reduceEq,Int.reduceLT,Int.reduceLE,Nat.reduceEqDiff,Nat.reduceAdd,Nat.reduceMul,Nat.reduceSub,Int.reduceToNat,Nat.reduceLeDiff,PF,isStop,isP,goInt,beq_self_eq_true,decide_true,decide_false,Int.toNat_natCast,Int.natCast_zero,nn_eq,nn_ne,e3,e6,e14,e15,g1]) | ((with_reducible refine CB_intro (fun ht=>hcA ?_) (fun ht=>hcB ?_)) <;> (first|(simp only [Bool.true_eq_false,Bool.false_eq_true] at ht;done)|((try simp only [Bool.not_eq_true',Bool.not_eq_false'] at ht);(try simp only [ht]);(try simp only [HTN] at ht);(try (exfalso;omega))))) | ((with_reducible refine W_regionI ?_);simp only [List.append_eq,List.cons_append,List.nil_append]) | (with_reducible refine O_splitG fun cA cB hcA hcB=>?_) | (exact hQ1 hv _ _ (((kk.trans (Kept.push _ none))).trans hKp)))
  by_cases k2:k=2
  · subst k2
    repeat' (first | (with_reducible first|refine W_pushC fun K hK=>?_|refine W_blockI ?_|refine W_scopeI ?_|refine W_labelI ?_|refine W_skipI ?_|refine W_retI ?_|refine W_exitI ?_|refine then_normalI ?_|refine then_retI ?_|refine then_exitI ?_|refine inBlock_normalI ?_|refine inBlock_retI ?_|refine inBlock_exitI ?_|refine inBlock_exitN (by decide) ?_) | ((with_reducible first|refine bodyQ_normal0 ?_|refine bodyQ_normal1 ?_|refine bodyQ_normal2 ?_|refine bodyQ_normal3 ?_|refine bodyQ_normal4 ?_|refine bodyQ_ret0 ?_|refine bodyQ_ret1 ?_|refine bodyQ_ret2 ?_|refine bodyQ_ret3 ?_|refine bodyQ_ret4 ?_);(try simp only [EVB,Nat.reduceEqDiff,reduceIte])) | (with_reducible refine Cont.use (by assumption) ?_) | ((refine O_append (P:=Tryz.prog) (elem:=74) (size:=2) (bytes:=32) (n:=0) (m:=1) (xs:=[]) (ys:=[.string _,.string _]) u40 sz74 by74 ze74 ⟨by decide,by decide,rfl⟩ (by simp only [EVB,Nat.reduceEqDiff,reduceIte,e6];exact Own.nil _ _ _) (by simp only [EVB,Nat.reduceEqDiff,reduceIte];exact asrc_own_lit u40 (St.get_push_self _ _) (Nat.zero_le _) rfl rfl) ⟨rfl,rfl⟩ (by decide) (fun v1 S3 hO hKp hB=>?_));(simp only [EVB,Nat.reduceEqDiff,reduceIte,e6] at hKp)) | (with_reducible first|refine hcA ?_|refine hcB ?_) | ((with_reducible first|refine W_condG fun cA cB hcA hcB=>?_|refine W_regionI ?_|show O _ _ _ _ _ _ _ _|show OK _ _ _ _ _ _ _ _ _|show OKF _ _ _ _ _ _ _ _ _ _|show OKT _ _ _ _ _ _ _ _ _ _ _ _|show _∧_|show CG _ _ _|show CB _ _ _);simp (disch:=first|((with_reducible show isStop _=false);rfl)|((with_reducible show isP _=true);rfl)|((with_reducible show (isStop _ || isP _)=false);rfl)|assumption|(simp only [GSB,Nat.reduceEqDiff,reduceIte];done)|omega|(with_reducible decide)|(simp only [DSB,Go.Proofs.YtdfgdpjlbcnkfaaGreatDoorAbs.oneC,Nat.reduceAdd,Nat.reduceLeDiff] <;> omega)|fail) only [↓DN,↓reduceIte,UP,CGB,Int.reduceEq,Int.reduceLT,Int.reduceLE,Nat.reduceEqDiff,Nat.reduceAdd,Nat.reduceMul,Nat.reduceSub,Int.reduceToNat,Nat.reduceLeDiff,PF,isStop,isP,goInt,beq_self_eq_true,decide_true,decide_false,Int.toNat_natCast,Int.natCast_zero,nn_eq,nn_ne,e3,e6,e14,e15,g1]) | ((with_reducible refine CB_intro (fun ht=>hcA ?_) (fun ht=>hcB ?_)) <;> (first|(simp only [Bool.true_eq_false,Bool.false_eq_true] at ht;done)|((try simp only [Bool.not_eq_true',Bool.not_eq_false'] at ht);(try simp only [ht]);(try simp only [HTN] at ht);(try (exfalso;omega))))) | ((with_reducible refine W_regionI ?_);simp only [List.append_eq,List.cons_append,List.nil_append]) | (with_reducible refine O_splitG fun cA cB hcA hcB=>?_) | (exact hQ1 hv _ _ (((kk.trans (Kept.push _ none))).trans hKp)))
  · have d1:decide (k=1)=false:=decide_eq_false k1
    have d2:decide (k=2)=false:=decide_eq_false k2
    repeat' (first | (with_reducible first|refine W_pushC fun K hK=>?_|refine W_blockI ?_|refine W_scopeI ?_|refine W_labelI ?_|refine W_skipI ?_|refine W_retI ?_|refine W_exitI ?_|refine then_normalI ?_|refine then_retI ?_|refine then_exitI ?_|refine inBlock_normalI ?_|refine inBlock_retI ?_|refine inBlock_exitI ?_|refine inBlock_exitN (by decide) ?_) | ((with_reducible first|refine bodyQ_normal0 ?_|refine bodyQ_normal1 ?_|refine bodyQ_normal2 ?_|refine bodyQ_normal3 ?_|refine bodyQ_normal4 ?_|refine bodyQ_ret0 ?_|refine bodyQ_ret1 ?_|refine bodyQ_ret2 ?_|refine bodyQ_ret3 ?_|refine bodyQ_ret4 ?_);(try simp only [EVB,Nat.reduceEqDiff,reduceIte])) | (with_reducible refine Cont.use (by assumption) ?_) | (with_reducible first|refine hcA ?_|refine hcB ?_) | ((with_reducible first|refine W_condG fun cA cB hcA hcB=>?_|refine W_regionI ?_|show O _ _ _ _ _ _ _ _|show OK _ _ _ _ _ _ _ _ _|show OKF _ _ _ _ _ _ _ _ _ _|show OKT _ _ _ _ _ _ _ _ _ _ _ _|show _∧_|show CG _ _ _|show CB _ _ _);simp (disch:=first|((with_reducible show isStop _=false);rfl)|((with_reducible show isP _=true);rfl)|((with_reducible show (isStop _ || isP _)=false);rfl)|assumption|(simp only [GSB,Nat.reduceEqDiff,reduceIte];done)|omega|(with_reducible decide)|(simp only [DSB,Go.Proofs.YtdfgdpjlbcnkfaaGreatDoorAbs.oneC,Nat.reduceAdd,Nat.reduceLeDiff] <;> omega)|fail) only [↓DN,↓reduceIte,UP,CGB,Int.reduceEq,Int.reduceLT,Int.reduceLE,Nat.reduceEqDiff,Nat.reduceAdd,Nat.reduceMul,Nat.reduceSub,Int.reduceToNat,Nat.reduceLeDiff,PF,isStop,isP,goInt,beq_self_eq_true,decide_true,decide_false,Int.toNat_natCast,Int.natCast_zero,nn_eq,nn_ne,e3,e6,e14,e15,g1,d1,d2]) | ((with_reducible refine CB_intro (fun ht=>hcA ?_) (fun ht=>hcB ?_)) <;> (first|(simp only [Bool.true_eq_false,Bool.false_eq_true] at ht;done)|((try simp only [Bool.not_eq_true',Bool.not_eq_false'] at ht);(try simp only [ht]);(try simp only [HTN] at ht);(try (exfalso;omega))))) | ((with_reducible refine W_regionI ?_);simp only [List.append_eq,List.cons_append,List.nil_append]) | (with_reducible refine O_splitG fun cA cB hcA hcB=>?_) | (exact hQ1 hv _ _ kk))
end
end Go.Proofs.YtdfgdpjlbcnkfaaGreatDoor.Q
namespace Go.Proofs.YtdfgdpjlbcnkfaaGreatDoor.Q
open Go Go.Proofs.YtdfgdpjlbcnkfaaGreatDoorAbs Go.Proofs
set_option linter.unusedVariables false
set_option linter.unusedSimpArgs false
set_option maxRecDepth 100000
set_option maxHeartbeats 4000000
attribute [local irreducible] YtdfgdpjlbcnkfaaGreatDoorAbs.O YtdfgdpjlbcnkfaaGreatDoorAbs.W YtdfgdpjlbcnkfaaGreatDoorAbs.C YtdfgdpjlbcnkfaaGreatDoorAbs.OK YtdfgdpjlbcnkfaaGreatDoorAbs.OKF YtdfgdpjlbcnkfaaGreatDoorAbs.OKT YtdfgdpjlbcnkfaaGreatDoorAbs.then_ YtdfgdpjlbcnkfaaGreatDoorAbs.inBlock_ YtdfgdpjlbcnkfaaGreatDoorAbs.bodyQ YtdfgdpjlbcnkfaaGreatDoorAbs.Cont
structure BR where
  kind:Int
  length:Int
  most:Int
  len:Int
  done:Bool
  err:Option Int
def BR.cells (r:BR) (ch:Value):List Value:=[.int .i64 r.kind,.int .i64 r.length,.int .i64 r.most,.int .i64 r.len,ch,.bool r.done,errW r.err]
def BR.fresh (k l most:Int):BR:=⟨k,l,most,0,decide (k=0) || (decide (k=1) && decide (l=0)),none⟩
def boundB (most:Int):Int:=if most<0∨1099511627776<most then 1099511627776 else most
section
variable {I:Prims} {S:St} {Q:Value→St→Prop}
theorem bd65:∀ (k l m:Int) (d:Bool),abuild Tryz.prog 65 #[(0,.agg #[.int .i64 k,.int .i64 l]),(1,.int .i64 m),(4,.bool d)]=some (.agg #[.int .i64 k,.int .i64 l,.int .i64 m,.int .i64 0,.pointer none,.bool d,.nilIface]):=by intros;kernel_rfl
theorem BNew_C' (h:HB I) {k l most:Int}
    (hbad:(validB k l=false∨most < -1)→∀ S',Kept S S' none→Q (.tuple #[.pointer none,.iface 58 (.int .i64 1)]) S')
    (hbig:validB k l=true→(k=1∧0≤most∧most<l)→∀ S',Kept S S' none→Q (.tuple #[.pointer none,.iface 58 (.int .i64 33)]) S')
    (hok:validB k l=true → -1≤most→¬ (k=1∧0≤most∧most<l)→¬ k=2→∀ S' b m,Kept S S' none→S.next≤b→b<S'.next→m≤7→S'.get b=some ⟨(BR.fresh k l most).cells (.pointer none),65,true,m⟩→Q (.tuple #[.pointer (some ⟨b,0,some 7⟩),.nilIface]) S')
    (hch:validB k l=true → -1≤most→k=2→∀ S' b m bc,Kept S S' none→S.next≤b→b<S'.next→m≤7→S'.get b=some ⟨(BR.fresh k l most).cells (.pointer (some ⟨bc,0,some 11⟩)),65,true,m⟩→S.next≤bc→bc ≠ b→bc<S'.next →
      S'.get bc=some ⟨(CR.fresh (.slice none 0 0) (.slice none 0 0) (boundB most)).cells,92,true,0⟩→Q (.tuple #[.pointer (some ⟨b,0,some 7⟩),.nilIface]) S') :
    C Tryz.prog I 9 #[.agg #[.int .i64 k,.int .i64 l],.int .i64 most] S Q:=by
  refine C_body (rs:=[.tmp 4,.tmp 5]) (h.no 9 (by decide)) Tryz.func9 rfl rfl ok9 ?_
  obtain ⟨sz23,u24,sz5,u5,u9,u3,sz36,sz3,sz44,u37,sz34,u34,sz24,sz4,u4,sz58,u58,sz65,sz63,u63,sz42,sz26,u40,sz74,sz40,sz78,u83,sz81,sz9,sz92,sz89,u89,sz90,u90,u108,sz115,u115,sz133,u133,u138,u21,u145,u148,sz147⟩:=UF
  have ki:=ki24
  cases hv:validB k l
  · repeat' (first | (with_reducible first|refine W_pushC fun K hK=>?_|refine W_blockI ?_|refine W_scopeI ?_|refine W_labelI ?_|refine W_skipI ?_|refine W_retI ?_|refine W_exitI ?_|refine then_normalI ?_|refine then_retI ?_|refine then_exitI ?_|refine inBlock_normalI ?_|refine inBlock_retI ?_|refine inBlock_exitI ?_|refine inBlock_exitN (by decide) ?_) | ((with_reducible first|refine bodyQ_normal0 ?_|refine bodyQ_normal1 ?_|refine bodyQ_normal2 ?_|refine bodyQ_normal3 ?_|refine bodyQ_normal4 ?_|refine bodyQ_ret0 ?_|refine bodyQ_ret1 ?_|refine bodyQ_ret2 ?_|refine bodyQ_ret3 ?_|refine bodyQ_ret4 ?_);(try simp only [EVB,Nat.reduceEqDiff,reduceIte])) | ((with_reducible show C _ _ _ _ _ _);first|(refine Fields_C h (fun q S1 hK1=>?_) (fun q=>absurd q (by rw [hv];decide)))) | (with_reducible refine Cont.use (by assumption) ?_) | (with_reducible first|refine hcA ?_|refine hcB ?_) | ((with_reducible first|refine W_condG fun cA cB hcA hcB=>?_|refine W_regionI ?_|show O _ _ _ _ _ _ _ _|show OK _ _ _ _ _ _ _ _ _|show OKF _ _ _ _ _ _ _ _ _ _|show OKT _ _ _ _ _ _ _ _ _ _ _ _|show _∧_|show CG _ _ _|show CB _ _ _);simp (disch:=first|((with_reducible show isStop _=false);rfl)|((with_reducible show isP _=true);rfl)|((with_reducible show (isStop _ || isP _)=false);rfl)|assumption|(simp only [GSB,Nat.reduceEqDiff,reduceIte];done)|omega|(with_reducible decide)|(simp only [DSB,Go.Proofs.YtdfgdpjlbcnkfaaGreatDoorAbs.oneC,Nat.reduceAdd,Nat.reduceLeDiff] <;> omega)|fail) only [↓DN,↓reduceIte,UP,CGB,Int.reduceEq,Int.reduceLT,Int.reduceLE,Nat.reduceEqDiff,Nat.reduceAdd,Nat.reduceMul,Nat.reduceSub,Int.reduceToNat,Nat.reduceLeDiff,PF,isStop,isP,goInt,beq_self_eq_true,decide_true,decide_false,Int.toNat_natCast,Int.natCast_zero,nn_eq,nn_ne]) | ((with_reducible refine CB_intro (fun ht=>hcA ?_) (fun ht=>hcB ?_)) <;> (first|(simp only [Bool.true_eq_false,Bool.false_eq_true] at ht;done)|((try simp only [Bool.not_eq_true',Bool.not_eq_false'] at ht);(try simp only [ht]);(try simp only [HTN] at ht);(try (exfalso;omega))))) | ((with_reducible refine W_regionI ?_);simp only [List.append_eq,List.cons_append,List.nil_append]) | (with_reducible refine O_splitG fun cA cB hcA hcB=>?_) | (exact hbad (.inl hv) _ ((Kept.push _ none).trans hK1)))
  by_cases hm1:most < -1
  · have d0:decide (most < -1)=true:=decide_eq_true hm1
    repeat' (first | (with_reducible first|refine W_pushC fun K hK=>?_|refine W_blockI ?_|refine W_scopeI ?_|refine W_labelI ?_|refine W_skipI ?_|refine W_retI ?_|refine W_exitI ?_|refine then_normalI ?_|refine then_retI ?_|refine then_exitI ?_|refine inBlock_normalI ?_|refine inBlock_retI ?_|refine inBlock_exitI ?_|refine inBlock_exitN (by decide) ?_) | ((with_reducible first|refine bodyQ_normal0 ?_|refine bodyQ_normal1 ?_|refine bodyQ_normal2 ?_|refine bodyQ_normal3 ?_|refine bodyQ_normal4 ?_|refine bodyQ_ret0 ?_|refine bodyQ_ret1 ?_|refine bodyQ_ret2 ?_|refine bodyQ_ret3 ?_|refine bodyQ_ret4 ?_);(try simp only [EVB,Nat.reduceEqDiff,reduceIte])) | ((with_reducible show C _ _ _ _ _ _);first|(refine Fields_C h (fun q=>absurd q (by rw [hv];decide)) (fun q vv S1 hK1=>?_))) | (with_reducible refine Cont.use (by assumption) ?_) | (with_reducible first|refine hcA ?_|refine hcB ?_) | ((with_reducible first|refine W_condG fun cA cB hcA hcB=>?_|refine W_regionI ?_|show O _ _ _ _ _ _ _ _|show OK _ _ _ _ _ _ _ _ _|show OKF _ _ _ _ _ _ _ _ _ _|show OKT _ _ _ _ _ _ _ _ _ _ _ _|show _∧_|show CG _ _ _|show CB _ _ _);simp (disch:=first|((with_reducible show isStop _=false);rfl)|((with_reducible show isP _=true);rfl)|((with_reducible show (isStop _ || isP _)=false);rfl)|assumption|(simp only [GSB,Nat.reduceEqDiff,reduceIte];done)|omega|(with_reducible decide)|(simp only [DSB,Go.Proofs.YtdfgdpjlbcnkfaaGreatDoorAbs.oneC,Nat.reduceAdd,Nat.reduceLeDiff] <;> omega)|fail) only [↓DN,↓reduceIte,UP,CGB,Int.reduceEq,Int.reduceLT,Int.reduceLE,Nat.reduceEqDiff,Nat.reduceAdd,Nat.reduceMul,Nat.reduceSub,Int.reduceToNat,Nat.reduceLeDiff,PF,isStop,isP,goInt,beq_self_eq_true,decide_true,decide_false,Int.toNat_natCast,Int.natCast_zero,nn_eq,nn_ne,d0]) | ((with_reducible refine CB_intro (fun ht=>hcA ?_) (fun ht=>hcB ?_)) <;> (first|(simp only [Bool.true_eq_false,Bool.false_eq_true] at ht;done)|((try simp only [Bool.not_eq_true',Bool.not_eq_false'] at ht);(try simp only [ht]);(try simp only [HTN] at ht);(try (exfalso;omega))))) | ((with_reducible refine W_regionI ?_);simp only [List.append_eq,List.cons_append,List.nil_append]) | (with_reducible refine O_splitG fun cA cB hcA hcB=>?_) | (exact hbad (.inr hm1) _ ((Kept.push _ none).trans hK1)))
  have d0:decide (most < -1)=false:=decide_eq_false hm1
  repeat' (first | (with_reducible first|refine W_pushC fun K hK=>?_|refine W_blockI ?_|refine W_scopeI ?_|refine W_labelI ?_|refine W_skipI ?_|refine W_retI ?_|refine W_exitI ?_|refine then_normalI ?_|refine then_retI ?_|refine then_exitI ?_|refine inBlock_normalI ?_|refine inBlock_retI ?_|refine inBlock_exitI ?_|refine inBlock_exitN (by decide) ?_) | ((with_reducible first|refine bodyQ_normal0 ?_|refine bodyQ_normal1 ?_|refine bodyQ_normal2 ?_|refine bodyQ_normal3 ?_|refine bodyQ_normal4 ?_|refine bodyQ_ret0 ?_|refine bodyQ_ret1 ?_|refine bodyQ_ret2 ?_|refine bodyQ_ret3 ?_|refine bodyQ_ret4 ?_);(try simp only [EVB,Nat.reduceEqDiff,reduceIte])) | ((with_reducible show C _ _ _ _ _ _);first|(refine Fields_C h (fun q=>absurd q (by rw [hv];decide)) (fun q vv S1 hK1=>?_))) | (with_reducible refine Cont.use (by assumption) ?_) | (with_reducible first|refine hcA ?_|refine hcB ?_) | ((with_reducible first|refine W_condG fun cA cB hcA hcB=>?_|refine W_regionI ?_|show O _ _ _ _ _ _ _ _|show OK _ _ _ _ _ _ _ _ _|show OKF _ _ _ _ _ _ _ _ _ _|show OKT _ _ _ _ _ _ _ _ _ _ _ _|show _∧_|show CG _ _ _|show CB _ _ _);simp (disch:=first|((with_reducible show isStop _=false);rfl)|((with_reducible show isP _=true);rfl)|((with_reducible show (isStop _ || isP _)=false);rfl)|assumption|(simp only [GSB,Nat.reduceEqDiff,reduceIte];done)|omega|(with_reducible decide)|(simp only [DSB,Go.Proofs.YtdfgdpjlbcnkfaaGreatDoorAbs.oneC,Nat.reduceAdd,Nat.reduceLeDiff] <;> omega)|fail) only [↓DN,↓reduceIte,UP,CGB,Int.reduceEq,Int.reduceLT,Int.reduceLE,Nat.reduceEqDiff,Nat.reduceAdd,Nat.reduceMul,Nat.reduceSub,Int.reduceToNat,Nat.reduceLeDiff,PF,isStop,isP,goInt,beq_self_eq_true,decide_true,decide_false,Int.toNat_natCast,Int.natCast_zero,nn_eq,nn_ne,d0]) | ((with_reducible refine CB_intro (fun ht=>hcA ?_) (fun ht=>hcB ?_)) <;> (first|(simp only [Bool.true_eq_false,Bool.false_eq_true] at ht;done)|((try simp only [Bool.not_eq_true',Bool.not_eq_false'] at ht);(try simp only [ht]);(try simp only [HTN] at ht);(try (exfalso;omega))))) | ((with_reducible refine W_regionI ?_);simp only [List.append_eq,List.cons_append,List.nil_append]) | (with_reducible refine O_splitG fun cA cB hcA hcB=>?_))
  have g1:S1.get S.next=some ⟨[.int .i64 k,.int .i64 l],23,true,0⟩:=(hK1.2 S.next (Nat.lt_succ_self _) (by simp)).trans (S.get_push_self _)
  have n1:S.next<S1.next:=Nat.lt_of_lt_of_le (Nat.lt_succ_self _) hK1.1
  have kk:Kept S S1 none:=(Kept.push _ none).trans hK1
  have hvk:k=0∨k=1∨k=2∨k=3:=by unfold validB at hv;split at hv <;> (try split at hv) <;> simp_all <;> omega
  have ne1:S.next ≠ S1.next:=by omega
  have b1:boundB most=if most<0∨1099511627776<most then 1099511627776 else most:=rfl
  have gA:∀ A B:Blk,((S1.push A).push B).get S1.next=some A:=fun A B=>(St.get_push_lt _ B (Nat.lt_succ_self S1.next)).trans (St.get_push_self _ A)
  have gB:∀ A B C:Blk,(((S1.push A).push B).upd S1.next C).get (S1.next+1)=some B:=fun A B C=>(St.get_upd_ne _ C (Nat.succ_ne_self _)).trans (St.get_push_self _ B)
  have gC:∀ A B C:Blk,(((S1.push A).push B).upd S1.next C).get S1.next=some C:=fun A B C=>St.get_upd_self _ _ C
  by_cases k2:k=2
  · subst k2
    repeat' (first | (with_reducible first|refine W_pushC fun K hK=>?_|refine W_blockI ?_|refine W_scopeI ?_|refine W_labelI ?_|refine W_skipI ?_|refine W_retI ?_|refine W_exitI ?_|refine then_normalI ?_|refine then_retI ?_|refine then_exitI ?_|refine inBlock_normalI ?_|refine inBlock_retI ?_|refine inBlock_exitI ?_|refine inBlock_exitN (by decide) ?_) | ((with_reducible first|refine bodyQ_normal0 ?_|refine bodyQ_normal1 ?_|refine bodyQ_normal2 ?_|refine bodyQ_normal3 ?_|refine bodyQ_normal4 ?_|refine bodyQ_ret0 ?_|refine bodyQ_ret1 ?_|refine bodyQ_ret2 ?_|refine bodyQ_ret3 ?_|refine bodyQ_ret4 ?_);(try simp only [EVB,Nat.reduceEqDiff,reduceIte])) | (with_reducible refine Cont.use (by assumption) ?_) | (with_reducible first|refine hcA ?_|refine hcB ?_) | ((with_reducible first|refine W_condG fun cA cB hcA hcB=>?_|refine W_regionI ?_|show O _ _ _ _ _ _ _ _|show OK _ _ _ _ _ _ _ _ _|show OKF _ _ _ _ _ _ _ _ _ _|show OKT _ _ _ _ _ _ _ _ _ _ _ _|show _∧_|show CG _ _ _|show CB _ _ _);simp (disch:=first|((with_reducible show isStop _=false);rfl)|((with_reducible show isP _=true);rfl)|((with_reducible show (isStop _ || isP _)=false);rfl)|assumption|(simp only [GSB,Nat.reduceEqDiff,reduceIte];done)|omega|(with_reducible decide)|(simp only [DSB,Go.Proofs.YtdfgdpjlbcnkfaaGreatDoorAbs.oneC,Nat.reduceAdd,Nat.reduceLeDiff] <;> omega)|fail) only [↓DN,↓reduceIte,UP,CGB,Int.reduceEq,Int.reduceLT,Int.reduceLE,Nat.reduceEqDiff,Nat.reduceAdd,Nat.reduceMul,Nat.reduceSub,Int.reduceToNat,Nat.reduceLeDiff,PF,isStop,isP,goInt,beq_self_eq_true,decide_true,decide_false,Int.toNat_natCast,Int.natCast_zero,nn_eq,nn_ne,g1,bd65,ne1]) | ((with_reducible refine CB_intro (fun ht=>hcA ?_) (fun ht=>hcB ?_)) <;> (first|(simp only [Bool.true_eq_false,Bool.false_eq_true] at ht;done)|((try simp only [Bool.not_eq_true',Bool.not_eq_false'] at ht);(try simp only [ht]);(try simp only [HTN] at ht);(try (exfalso;omega))))) | ((with_reducible refine W_regionI ?_);simp only [List.append_eq,List.cons_append,List.nil_append]) | (with_reducible refine O_splitG fun cA cB hcA hcB=>?_))
    all_goals refine New_C h.toHI (fun _=>?_) (fun q=>absurd q (by omega))
    · rw [show (1099511627776:Int)=boundB most by rw [b1];split <;> omega]
      repeat' (first | (with_reducible first|refine W_pushC fun K hK=>?_|refine W_blockI ?_|refine W_scopeI ?_|refine W_labelI ?_|refine W_skipI ?_|refine W_retI ?_|refine W_exitI ?_|refine then_normalI ?_|refine then_retI ?_|refine then_exitI ?_|refine inBlock_normalI ?_|refine inBlock_retI ?_|refine inBlock_exitI ?_|refine inBlock_exitN (by decide) ?_) | ((with_reducible first|refine bodyQ_normal0 ?_|refine bodyQ_normal1 ?_|refine bodyQ_normal2 ?_|refine bodyQ_normal3 ?_|refine bodyQ_normal4 ?_|refine bodyQ_ret0 ?_|refine bodyQ_ret1 ?_|refine bodyQ_ret2 ?_|refine bodyQ_ret3 ?_|refine bodyQ_ret4 ?_);(try simp only [EVB,Nat.reduceEqDiff,reduceIte])) | (with_reducible refine Cont.use (by assumption) ?_) | (with_reducible first|refine hcA ?_|refine hcB ?_) | ((with_reducible first|refine W_condG fun cA cB hcA hcB=>?_|refine W_regionI ?_|show O _ _ _ _ _ _ _ _|show OK _ _ _ _ _ _ _ _ _|show OKF _ _ _ _ _ _ _ _ _ _|show OKT _ _ _ _ _ _ _ _ _ _ _ _|show _∧_|show CG _ _ _|show CB _ _ _);simp (disch:=first|((with_reducible show isStop _=false);rfl)|((with_reducible show isP _=true);rfl)|((with_reducible show (isStop _ || isP _)=false);rfl)|assumption|(simp only [GSB,Nat.reduceEqDiff,reduceIte];done)|omega|(with_reducible decide)|(simp only [DSB,Go.Proofs.YtdfgdpjlbcnkfaaGreatDoorAbs.oneC,Nat.reduceAdd,Nat.reduceLeDiff] <;> omega)|fail) only [↓DN,↓reduceIte,UP,CGB,Int.reduceEq,Int.reduceLT,Int.reduceLE,Nat.reduceEqDiff,Nat.reduceAdd,Nat.reduceMul,Nat.reduceSub,Int.reduceToNat,Nat.reduceLeDiff,PF,isStop,isP,goInt,beq_self_eq_true,decide_true,decide_false,Int.toNat_natCast,Int.natCast_zero,nn_eq,nn_ne,gA]) | ((with_reducible refine CB_intro (fun ht=>hcA ?_) (fun ht=>hcB ?_)) <;> (first|(simp only [Bool.true_eq_false,Bool.false_eq_true] at ht;done)|((try simp only [Bool.not_eq_true',Bool.not_eq_false'] at ht);(try simp only [ht]);(try simp only [HTN] at ht);(try (exfalso;omega))))) | ((with_reducible refine W_regionI ?_);simp only [List.append_eq,List.cons_append,List.nil_append]) | (with_reducible refine O_splitG fun cA cB hcA hcB=>?_) | (exact hch hv (by omega) rfl _ _ 7 _ (((kk.trans (Kept.push _ none)).trans (Kept.push _ none)).upd (by have:=kk.1;omega) _) (Nat.le_of_lt n1) (Nat.lt_succ_of_lt (Nat.lt_succ_self _)) (Nat.le_refl _) (gC _ _ _) (Nat.le_succ_of_le (Nat.le_of_lt n1)) (Nat.succ_ne_self _) (Nat.lt_succ_self _) (gB _ _ _)))
    · have hm:boundB most=most:=by rw [b1];split <;> omega
      have hch':=hch
      rw [hm] at hch'
      repeat' (first | (with_reducible first|refine W_pushC fun K hK=>?_|refine W_blockI ?_|refine W_scopeI ?_|refine W_labelI ?_|refine W_skipI ?_|refine W_retI ?_|refine W_exitI ?_|refine then_normalI ?_|refine then_retI ?_|refine then_exitI ?_|refine inBlock_normalI ?_|refine inBlock_retI ?_|refine inBlock_exitI ?_|refine inBlock_exitN (by decide) ?_) | ((with_reducible first|refine bodyQ_normal0 ?_|refine bodyQ_normal1 ?_|refine bodyQ_normal2 ?_|refine bodyQ_normal3 ?_|refine bodyQ_normal4 ?_|refine bodyQ_ret0 ?_|refine bodyQ_ret1 ?_|refine bodyQ_ret2 ?_|refine bodyQ_ret3 ?_|refine bodyQ_ret4 ?_);(try simp only [EVB,Nat.reduceEqDiff,reduceIte])) | (with_reducible refine Cont.use (by assumption) ?_) | (with_reducible first|refine hcA ?_|refine hcB ?_) | ((with_reducible first|refine W_condG fun cA cB hcA hcB=>?_|refine W_regionI ?_|show O _ _ _ _ _ _ _ _|show OK _ _ _ _ _ _ _ _ _|show OKF _ _ _ _ _ _ _ _ _ _|show OKT _ _ _ _ _ _ _ _ _ _ _ _|show _∧_|show CG _ _ _|show CB _ _ _);simp (disch:=first|((with_reducible show isStop _=false);rfl)|((with_reducible show isP _=true);rfl)|((with_reducible show (isStop _ || isP _)=false);rfl)|assumption|(simp only [GSB,Nat.reduceEqDiff,reduceIte];done)|omega|(with_reducible decide)|(simp only [DSB,Go.Proofs.YtdfgdpjlbcnkfaaGreatDoorAbs.oneC,Nat.reduceAdd,Nat.reduceLeDiff] <;> omega)|fail) only [↓DN,↓reduceIte,UP,CGB,Int.reduceEq,Int.reduceLT,Int.reduceLE,Nat.reduceEqDiff,Nat.reduceAdd,Nat.reduceMul,Nat.reduceSub,Int.reduceToNat,Nat.reduceLeDiff,PF,isStop,isP,goInt,beq_self_eq_true,decide_true,decide_false,Int.toNat_natCast,Int.natCast_zero,nn_eq,nn_ne,gA]) | ((with_reducible refine CB_intro (fun ht=>hcA ?_) (fun ht=>hcB ?_)) <;> (first|(simp only [Bool.true_eq_false,Bool.false_eq_true] at ht;done)|((try simp only [Bool.not_eq_true',Bool.not_eq_false'] at ht);(try simp only [ht]);(try simp only [HTN] at ht);(try (exfalso;omega))))) | ((with_reducible refine W_regionI ?_);simp only [List.append_eq,List.cons_append,List.nil_append]) | (with_reducible refine O_splitG fun cA cB hcA hcB=>?_) | (exact hch' hv (by omega) rfl _ _ 7 _ (((kk.trans (Kept.push _ none)).trans (Kept.push _ none)).upd (by have:=kk.1;omega) _) (Nat.le_of_lt n1) (Nat.lt_succ_of_lt (Nat.lt_succ_self _)) (Nat.le_refl _) (gC _ _ _) (Nat.le_succ_of_le (Nat.le_of_lt n1)) (Nat.succ_ne_self _) (Nat.lt_succ_self _) (gB _ _ _)))
    · rw [show (1099511627776:Int)=boundB most by rw [b1];split <;> omega]
      repeat' (first | (with_reducible first|refine W_pushC fun K hK=>?_|refine W_blockI ?_|refine W_scopeI ?_|refine W_labelI ?_|refine W_skipI ?_|refine W_retI ?_|refine W_exitI ?_|refine then_normalI ?_|refine then_retI ?_|refine then_exitI ?_|refine inBlock_normalI ?_|refine inBlock_retI ?_|refine inBlock_exitI ?_|refine inBlock_exitN (by decide) ?_) | ((with_reducible first|refine bodyQ_normal0 ?_|refine bodyQ_normal1 ?_|refine bodyQ_normal2 ?_|refine bodyQ_normal3 ?_|refine bodyQ_normal4 ?_|refine bodyQ_ret0 ?_|refine bodyQ_ret1 ?_|refine bodyQ_ret2 ?_|refine bodyQ_ret3 ?_|refine bodyQ_ret4 ?_);(try simp only [EVB,Nat.reduceEqDiff,reduceIte])) | (with_reducible refine Cont.use (by assumption) ?_) | (with_reducible first|refine hcA ?_|refine hcB ?_) | ((with_reducible first|refine W_condG fun cA cB hcA hcB=>?_|refine W_regionI ?_|show O _ _ _ _ _ _ _ _|show OK _ _ _ _ _ _ _ _ _|show OKF _ _ _ _ _ _ _ _ _ _|show OKT _ _ _ _ _ _ _ _ _ _ _ _|show _∧_|show CG _ _ _|show CB _ _ _);simp (disch:=first|((with_reducible show isStop _=false);rfl)|((with_reducible show isP _=true);rfl)|((with_reducible show (isStop _ || isP _)=false);rfl)|assumption|(simp only [GSB,Nat.reduceEqDiff,reduceIte];done)|omega|(with_reducible decide)|(simp only [DSB,Go.Proofs.YtdfgdpjlbcnkfaaGreatDoorAbs.oneC,Nat.reduceAdd,Nat.reduceLeDiff] <;> omega)|fail) only [↓DN,↓reduceIte,UP,CGB,Int.reduceEq,Int.reduceLT,Int.reduceLE,Nat.reduceEqDiff,Nat.reduceAdd,Nat.reduceMul,Nat.reduceSub,Int.reduceToNat,Nat.reduceLeDiff,PF,isStop,isP,goInt,beq_self_eq_true,decide_true,decide_false,Int.toNat_natCast,Int.natCast_zero,nn_eq,nn_ne,gA]) | ((with_reducible refine CB_intro (fun ht=>hcA ?_) (fun ht=>hcB ?_)) <;> (first|(simp only [Bool.true_eq_false,Bool.false_eq_true] at ht;done)|((try simp only [Bool.not_eq_true',Bool.not_eq_false'] at ht);(try simp only [ht]);(try simp only [HTN] at ht);(try (exfalso;omega))))) | ((with_reducible refine W_regionI ?_);simp only [List.append_eq,List.cons_append,List.nil_append]) | (with_reducible refine O_splitG fun cA cB hcA hcB=>?_) | (exact hch hv (by omega) rfl _ _ 7 _ (((kk.trans (Kept.push _ none)).trans (Kept.push _ none)).upd (by have:=kk.1;omega) _) (Nat.le_of_lt n1) (Nat.lt_succ_of_lt (Nat.lt_succ_self _)) (Nat.le_refl _) (gC _ _ _) (Nat.le_succ_of_le (Nat.le_of_lt n1)) (Nat.succ_ne_self _) (Nat.lt_succ_self _) (gB _ _ _)))
  · have d2:decide (k=2)=false:=decide_eq_false k2
    repeat' (first | (with_reducible first|refine W_pushC fun K hK=>?_|refine W_blockI ?_|refine W_scopeI ?_|refine W_labelI ?_|refine W_skipI ?_|refine W_retI ?_|refine W_exitI ?_|refine then_normalI ?_|refine then_retI ?_|refine then_exitI ?_|refine inBlock_normalI ?_|refine inBlock_retI ?_|refine inBlock_exitI ?_|refine inBlock_exitN (by decide) ?_) | ((with_reducible first|refine bodyQ_normal0 ?_|refine bodyQ_normal1 ?_|refine bodyQ_normal2 ?_|refine bodyQ_normal3 ?_|refine bodyQ_normal4 ?_|refine bodyQ_ret0 ?_|refine bodyQ_ret1 ?_|refine bodyQ_ret2 ?_|refine bodyQ_ret3 ?_|refine bodyQ_ret4 ?_);(try simp only [EVB,Nat.reduceEqDiff,reduceIte])) | (with_reducible refine Cont.use (by assumption) ?_) | (with_reducible first|refine hcA ?_|refine hcB ?_) | ((with_reducible first|refine W_condG fun cA cB hcA hcB=>?_|refine W_regionI ?_|show O _ _ _ _ _ _ _ _|show OK _ _ _ _ _ _ _ _ _|show OKF _ _ _ _ _ _ _ _ _ _|show OKT _ _ _ _ _ _ _ _ _ _ _ _|show _∧_|show CG _ _ _|show CB _ _ _);simp (disch:=first|((with_reducible show isStop _=false);rfl)|((with_reducible show isP _=true);rfl)|((with_reducible show (isStop _ || isP _)=false);rfl)|assumption|(simp only [GSB,Nat.reduceEqDiff,reduceIte];done)|omega|(with_reducible decide)|(simp only [DSB,Go.Proofs.YtdfgdpjlbcnkfaaGreatDoorAbs.oneC,Nat.reduceAdd,Nat.reduceLeDiff] <;> omega)|fail) only [↓DN,↓reduceIte,UP,CGB,Int.reduceEq,Int.reduceLT,Int.reduceLE,Nat.reduceEqDiff,Nat.reduceAdd,Nat.reduceMul,Nat.reduceSub,Int.reduceToNat,Nat.reduceLeDiff,PF,isStop,isP,goInt,beq_self_eq_true,decide_true,decide_false,Int.toNat_natCast,Int.natCast_zero,nn_eq,nn_ne,g1,bd65,ne1,d2]) | ((with_reducible refine CB_intro (fun ht=>hcA ?_) (fun ht=>hcB ?_)) <;> (first|(simp only [Bool.true_eq_false,Bool.false_eq_true] at ht;done)|((try simp only [Bool.not_eq_true',Bool.not_eq_false'] at ht);(try simp only [ht]);(try simp only [HTN] at ht);(try (exfalso;omega))))) | ((with_reducible refine W_regionI ?_);simp only [List.append_eq,List.cons_append,List.nil_append]) | (with_reducible refine O_splitG fun cA cB hcA hcB=>?_) | (exact hbig hv (by omega) _ kk))
    all_goals
      refine hok hv (by omega) (by omega) k2 _ _ 0 (kk.trans (Kept.push _ none)) (Nat.le_of_lt n1) (Nat.lt_succ_self _) (by omega) ?_
      rw [St.get_push_self]
      simp [BR.cells,BR.fresh,errW, *]
theorem BNew_C (h:HB I) {k l most:Int}
    (hbad:(validB k l=false∨most < -1)→∀ S',Kept S S' none→Q (.tuple #[.pointer none,.iface 58 (.int .i64 1)]) S')
    (hbig:(k=1∧0≤most∧most<l)→∀ S',Kept S S' none→Q (.tuple #[.pointer none,.iface 58 (.int .i64 33)]) S')
    (hok:validB k l=true → -1≤most→¬ (k=1∧0≤most∧most<l)→¬ k=2→∀ S' b m,Kept S S' none→S.next≤b→b<S'.next→m≤7→S'.get b=some ⟨(BR.fresh k l most).cells (.pointer none),65,true,m⟩→Q (.tuple #[.pointer (some ⟨b,0,some 7⟩),.nilIface]) S')
    (hch:validB k l=true → -1≤most→k=2→∀ S' b m bc,Kept S S' none→S.next≤b→b<S'.next→m≤7→S'.get b=some ⟨(BR.fresh k l most).cells (.pointer (some ⟨bc,0,some 11⟩)),65,true,m⟩→S.next≤bc→bc ≠ b→bc<S'.next →
      S'.get bc=some ⟨(CR.fresh (.slice none 0 0) (.slice none 0 0) (boundB most)).cells,92,true,0⟩→Q (.tuple #[.pointer (some ⟨b,0,some 7⟩),.nilIface]) S') :
    C Tryz.prog I 9 #[.agg #[.int .i64 k,.int .i64 l],.int .i64 most] S Q:=by
  exact BNew_C' h hbad (fun _=>hbig) hok hch
end
end Go.Proofs.YtdfgdpjlbcnkfaaGreatDoor.Q
