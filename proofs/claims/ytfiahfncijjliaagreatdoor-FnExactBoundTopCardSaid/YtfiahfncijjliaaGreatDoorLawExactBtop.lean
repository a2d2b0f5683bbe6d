/-
  The program's BoundTop is the reference's, for all segments, and neither keeps nor hands back what is the caller's. Of no program.
-/
import Derived.Test.YtfiahfncijjliaaGreatDoorLawSzA
import Derived.Test.YtfiahfncijjliaaGreatDoorLawExactBnd
set_option linter.unusedVariables false
namespace Go.Fk
open Go
theorem boundTop_len (c:GConf)(s:GSeg)(n:Str)(words:List Str)(most:Int):(boundTopS c s n words most).1.length≤1000:=by
 unfold boundTopS
 split
 ·rename_i hall
  simp only [Bool.and_eq_true,decide_eq_true_iff] at hall
  obtain⟨⟨ho,hwn,⟨hw1,hw2⟩,hm1,hm2⟩,hwa⟩:=hall
  have:=(fast_inv (c:=c) n (uniqT c words) (seg_is ho).2.1 (show 1≤most.toNat∧most.toNat≤16 by omega)).few
  show (fastS c s n (uniqT c words) most.toNat).1.length≤1000
  omega
 ·simp
theorem law_exactBoundTop (c:GConf)(s:GSeg)(n:Str)(words:List Str)(most:Int)(hc:ConfLen c)(hs:SegLen s)(hws:words.length≤maxLen∧∀w∈words,w.length≤maxLen): ∃F,M.laws_FnExactBoundTop F c s n words most=some true:=by
 refine⟨2000000000,?_⟩
 generalize hF:2000000000=F
 unfold M.laws_FnExactBoundTop
 by_cases hnl:(1048576:Int)<(n.length:Int)
 ·rw [decide_eq_true hnl];rfl
 rw [decide_eq_false hnl]
 obtain⟨r,hr,h1⟩:=szConf F c 1048576 (by omega) (by omega) (by omega) hc
 rw [cond_false,hr,Option.bind_some]
 by_cases hn:r<0
 ·rw [decide_eq_true hn];rfl
 obtain⟨hle,hcb⟩:=h1 (by omega)
 obtain⟨q,hq,h2⟩:=szSeg F s r (by omega) hle (by omega) hs
 rw [decide_eq_false hn,cond_false,hq,Option.bind_some]
 by_cases hn2:q<0
 ·rw [decide_eq_true hn2];rfl
 obtain⟨hqle,hsb⟩:=h2 (by omega)
 obtain⟨p,hp,h3⟩:=szStrs F words q (by omega) (by omega) (by omega) hws
 rw [decide_eq_false hn2,cond_false,hp,Option.bind_some]
 by_cases hn3:p<0
 ·rw [decide_eq_true hn3];rfl
 obtain⟨_,hwb⟩:=h3 (by omega)
 have hd:=hsb.1.1
 have hst:=hcb.1.1
 have hlen:(boundTopS c s n words most).1.length≤1000:=boundTop_len c s n words most
 have hi:=impl_boundTopX F c s n words most (by omega) (by omega) hwb.1 (by omega)
 have hsp:=spec_boundTopX F c s n words most hcb hsb (by omega) hwb.1 hwb.2 (by omega)
 generalize boundTopS c s n words most=wl at *
 obtain⟨ws,lk⟩:=wl
 simp only at hlen
 have heq:=eqHits F ws (by omega) (by omega)
 have htc:=toConf F c (by omega) hcb
 have hts:=toSeg F s (by omega) hsb
 obtain⟨m,hm,hml⟩:=mkConf F c 1 (by omega) hcb (by omega)
 obtain⟨m',hm',hml'⟩:=mkSeg F s m (by omega) hsb (by omega)
 obtain⟨m2,hm2,_⟩:=mkTexts F words m' (by omega) hwb.1 (by omega)
 have htw:=toStrs F words (by omega) hwb.1
 have hm1:M.laws_markConf F c 1=some (m:Int):=hm
 have hk:=kap_nat 1 (by omega) ws.length (by omega)
 have hk':decide (kapGHit 1 ws.length<0)=false:=decide_eq_false (by rw [show (1:Int)=((1:Nat):Int) from rfl,hk];omega)
 rw [decide_eq_false hn3,cond_false,htc,Option.bind_some,hts,Option.bind_some,htw,Option.bind_some,hsp,Option.bind_some,Option.bind_some,Option.bind_some,Option.bind_some,hi,Option.bind_some]
 dsimp only
 rw [heq,Option.bind_some,Bool.not_true,cond_false,beq_self_eq_true,Bool.not_true,Option.bind_some,cond_false,Option.bind_some,eqConf F c (by omega) hcb,Option.bind_some,Bool.not_true,cond_false,Option.bind_some,eqSeg F s (by omega) hsb,Option.bind_some,Bool.not_true,cond_false,Option.bind_some,eqStrs F words (by omega) hwb.1,Option.bind_some,Bool.not_true,cond_false,hm1,Option.bind_some,hm',Option.bind_some,hm2,Option.bind_some,decide_eq_false (by omega),cond_false,Option.bind_some,cond_false,markHits F ws 1 (by omega) (by omega),Option.bind_some,heldHits F ws.length 1 (by omega) (by omega),Option.bind_some,hk',cond_false,beq_self_eq_true,Bool.not_true,cond_false,Option.bind_some,Option.bind_some,Option.bind_some,hi,Option.bind_some]
 dsimp only
 rw [heq,Option.bind_some,Bool.not_true,cond_false,beq_self_eq_true,Bool.not_true,Option.bind_some,cond_false,Option.bind_some,hk',cond_false,beq_self_eq_true]
 rfl
end Go.Fk
