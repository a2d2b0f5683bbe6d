/-
  The program's BoundOf is the reference's, for all segments, and neither keeps nor hands back what is the caller's. Of no program.
-/
import Derived.Test.YtfiahfncijjliaaGreatDoorLawSzA
import Derived.Test.YtfiahfncijjliaaGreatDoorLawExactBndO
set_option linter.unusedVariables false
namespace Go.Fk
open Go
theorem law_exactBoundOf (c:GConf)(s:GSeg)(n t:Str)(hc:ConfLen c)(hs:SegLen s): ∃F,M.laws_FnExactBoundOf F c s n t=some true:=by
 refine⟨2000000000,?_⟩
 generalize hF:2000000000=F
 unfold M.laws_FnExactBoundOf
 cases decide ((1048576:Int)<(n.length:Int))
 case true=>rfl
 rw [cond_false]
 cases decide ((1048576:Int)<(t.length:Int))
 case true=>rfl
 obtain⟨r,hr,h1⟩:=szConf F c 1048576 (by omega) (by omega) (by omega) hc
 rw [cond_false,hr,Option.bind_some]
 by_cases hn:r<0
 ·rw [decide_eq_true hn];rfl
 obtain⟨hle,hcb⟩:=h1 (by omega)
 obtain⟨q,hq,h2⟩:=szSeg F s r (by omega) hle (by omega) hs
 rw [decide_eq_false hn,cond_false,hq,Option.bind_some]
 by_cases hn2:q<0
 ·rw [decide_eq_true hn2];rfl
 obtain⟨_,hsb⟩:=h2 (by omega)
 have hd:=hsb.1.1
 have hst:=hcb.1.1
 have hlen:(boundsS c s n t).length≤100000:=by
  unfold boundsS
  cases ho:segOk c s with
  | false=>simp
  | true=>
   have:=blk_shortX ho n t
   rw [if_pos rfl];omega
 have hi:=impl_boundOfX F c s n t (by omega) (by omega) (by omega)
 have hsp:=spec_boundOfX F c s n t hcb hsb (by omega)
 generalize boundsS c s n t=ws at *
 have heq:=eqBlocks F ws (by omega) (by omega)
 have htc:=toConf F c (by omega) hcb
 have hts:=toSeg F s (by omega) hsb
 obtain⟨m,hm,hml⟩:=mkConf F c 1 (by omega) hcb (by omega)
 obtain⟨m',hm',_⟩:=mkSeg F s m (by omega) hsb (by omega)
 have hm1:M.laws_markConf F c 1=some (m:Int):=hm
 have hk:=kap_natB 1 (by omega) ws.length (by omega)
 have hk':decide (kapGBlock 1 ws.length<0)=false:=decide_eq_false (by rw [show (1:Int)=((1:Nat):Int) from rfl,hk];omega)
 rw [decide_eq_false hn2,cond_false,htc,Option.bind_some,hts,Option.bind_some,hsp,Option.bind_some,Option.bind_some,Option.bind_some,hi,Option.bind_some,heq,Option.bind_some,Bool.not_true,cond_false,Option.bind_some,eqConf F c (by omega) hcb,Option.bind_some,Bool.not_true,cond_false,Option.bind_some,eqSeg F s (by omega) hsb,Option.bind_some,Bool.not_true,cond_false,hm1,Option.bind_some,hm',Option.bind_some,decide_eq_false (by omega),cond_false,Option.bind_some,Bool.not_true,Option.bind_some,cond_false,markBlocks F ws 1 (by omega) (by omega),Option.bind_some,heldBlocks F ws.length 1 (by omega) (by omega),Option.bind_some,hk',cond_false,beq_self_eq_true,Bool.not_true,cond_false,Option.bind_some,Option.bind_some,hi,Option.bind_some,heq,Option.bind_some,Bool.not_true,cond_false,Option.bind_some,hk',cond_false,beq_self_eq_true]
 rfl
end Go.Fk
