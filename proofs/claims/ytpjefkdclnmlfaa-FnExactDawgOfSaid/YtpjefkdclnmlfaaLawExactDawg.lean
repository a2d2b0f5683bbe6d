/-
  The program's DawgOf is the reference's, for all words, and neither keeps nor hands back what is the caller's. Of no program.
-/
import Derived.Test.YtpjefkdclnmlfaaLawMarks
import Derived.Test.YtpjefkdclnmlfaaLawStrs
import Derived.Test.YtpjefkdclnmlfaaLawPutS
import Derived.Test.YtpjefkdclnmlfaaLawEq
set_option linter.unusedVariables false
namespace Go.Fk
open Go
theorem eqArcsD (F:Nat)(x:List GArc)(hF:x.length<F)(hl:x.length≤1048576):M.laws_eqArcS F x x=some true:=by
 unfold M.laws_eqArcS
 rw [beq_self_eq_true,Bool.not_true,cond_false,clean0' (n:=x.length) F hF (fun i hi=>?_) ?_]
 ·rfl
 ·rw [decide_eq_false (by omega)];rfl
 ·rw [decide_eq_true (by omega),cond_true,getI_at hi,Option.bind_some,Option.bind_some,show M.laws_eqArc F x[i] x[i]=some true by
   unfold M.laws_eqArc
   rw [beq_self_eq_true,beq_self_eq_true];rfl,Option.bind_some,w64_succ' (by omega)]
  rfl
theorem eqStatesD (F:Nat)(x:List GState)(hF:2000000<F)(hl:x.length≤1048576)(ha: ∀s∈x,s.Arcs.length≤1048576):M.laws_eqStateS F x x=some true:=by
 unfold M.laws_eqStateS
 rw [beq_self_eq_true,Bool.not_true,cond_false,clean0' (n:=x.length) F (by omega) (fun i hi=>?_) ?_]
 ·rfl
 ·rw [decide_eq_false (by omega)];rfl
 ·have hs:=ha x[i] (List.getElem_mem hi)
  rw [decide_eq_true (by omega),cond_true,getI_at hi,Option.bind_some,Option.bind_some,show M.laws_eqState F x[i] x[i]=some true by
   unfold M.laws_eqState
   rw [beq_self_eq_true,beq_self_eq_true,eqArcsD F _ (by omega) hs];rfl,Option.bind_some,w64_succ' (by omega)]
  rfl
theorem law_exactDawgOf (ws:List Str)(hw:ws.length≤maxLen∧∀s∈ws,s.length≤maxLen): ∃F,M.laws_FnExactDawgOf F ws=some true:=by
 refine⟨10000000,?_⟩
 generalize hF:10000000=F
 unfold M.laws_FnExactDawgOf
 obtain⟨r,hr,h1⟩:=szStrsD F ws 1048576 (by omega) (by omega) (by omega) hw
 rw [hr,Option.bind_some]
 by_cases hn:r<0
 ·rw [decide_eq_true hn];rfl
 obtain⟨_,hb⟩:=h1 (by omega)
 have ht:=toStrsD F ws (by omega) hb.1
 have hi:=impl_dawg F ws (by have:=hb.1;omega)
 have hm0:1048576≤maxLen:=by decide
 have hsp:=spec_dawg F ws (by omega) (by have:=hb.1;omega) (by have:=hb.1;omega) fun w h=>by have:=hb.2 w h;omega
 obtain⟨hg,hl⟩:=dawg_good ws
 have hxb:(dawgS ws).length≤1048576∧∀d∈dawgS ws,d.Arcs.length≤1048576:=⟨by omega,fun a ha=>by have:=hg.few a ha;omega⟩
 generalize dawgS ws=xs at *
 have heq:=eqStatesD F xs (by omega) hxb.1 hxb.2
 obtain⟨m,hm,_⟩:=mkTextsD F ws 1 (by omega) hb.1 (by omega)
 have hm1:M.laws_markStringS F ws 1=some (m:Int):=hm
 obtain⟨q,hq,_⟩:=states_end F xs 1 hxb (by omega)
 have hmk:M.laws_markStateS F xs 1=some (q:Int):=(mEqStates F xs 1 (by omega) hxb (by omega)).trans (congrArg some hq)
 have hhd:M.laws_heldStateS F (mkRow (stepGState F) (1:Int) xs).1 1=some (q:Int):=(heldStates F xs 1 (by omega) hxb (by omega)).trans (congrArg some hq)
 rw [decide_eq_false hn,cond_false,ht,Option.bind_some,hsp,Option.bind_some,Option.bind_some,hi,Option.bind_some,heq,Option.bind_some,Bool.not_true,cond_false,Option.bind_some,eqStrsD F ws (by omega) hb.1,Option.bind_some,Bool.not_true,cond_false,hm1,Option.bind_some,decide_eq_false (by omega),cond_false,Option.bind_some,Bool.not_true,Option.bind_some,cond_false,hmk,Option.bind_some,hhd,Option.bind_some,decide_eq_false (by omega),cond_false,beq_self_eq_true,Bool.not_true,cond_false,Option.bind_some,hi,Option.bind_some,heq,Option.bind_some,Bool.not_true,cond_false,Option.bind_some,decide_eq_false (by omega),cond_false,beq_self_eq_true]
 rfl
end Go.Fk
