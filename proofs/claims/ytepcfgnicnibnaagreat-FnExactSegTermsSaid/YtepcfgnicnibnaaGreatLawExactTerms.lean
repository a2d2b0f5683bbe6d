/-
  The program's SegTerms is the reference's, for all segments, and neither keeps nor hands back what is the caller's. Of no program.
-/
import Derived.Test.YtepcfgnicnibnaaGreatLawMarkS
import Derived.Test.YtepcfgnicnibnaaGreatLawExactA
import Derived.Test.YtepcfgnicnibnaaGreatLawSegTermsA
set_option linter.unusedVariables false
namespace Go.Fk
open Go
theorem spec_segTermsX (F:Nat)(c:GConf)(s:GSeg)(n:Str)(hc:ConfBig c)(hs:SegBig s)(hF:5000000<F):M.spec_SegTerms F c s n=some (segTermsS c s n):=by
 have hok:=spec_okX F c s hc hs hF
 unfold M.spec_SegTerms segTermsS
 cases ho:segOk c s
 ·rw [ho] at hok
  obtain⟨G,hG⟩: ∃G,F=G+1:=⟨F-1,by omega⟩
  conv=>lhs;rw [hG]
  rw [whileM,←hG]
  simp only
  rw [hok]
  have hz:(bif decide ((0:Int)<(s.Entries.length:Int)) then (some false:Option Bool).bind fun r=>some r else some false)=some false:=by cases decide ((0:Int)<(s.Entries.length:Int))<;>rfl
  rw [hz];rfl
 ·rw [ho] at hok
  obtain⟨h1,h2,h3⟩:=seg_is ho
  have hfit:Fits 10000 s.Entries:=by rw [h3];exact(seg_fits h2).le (by omega)
  have hl:=hfit.1
  have hlen:=termsAt_len (s:=s) (n:=n)
  rw [if_pos rfl]
  rw [fm_while (xs:=s.Entries) (pickT n) 10000 F (by omega) (fun i e acc hx hB=>?_) (fun acc=>?_) [] (by rw [List.nil_append];unfold termsAt at hlen;omega),List.nil_append]
  ·rfl
  ·have hi:=(List.getElem?_eq_some_iff.1 hx).1
   rw [decide_eq_true (by omega),cond_true,hok,Option.bind_some,Option.bind_some,cond_true,getI_nat',hx,Option.bind_some,Option.bind_some,w64_succ' (by omega)]
   unfold pickT at hB ⊢
   revert hB
   rw [if_bif]
   cases e.Field==n
   ·intro _;simp
   ·intro hB
    simp only [cond_true] at hB ⊢
    rw [catLok (by simp at hB ⊢;omega)];rfl
  ·rw [decide_eq_false (by omega)];rfl
theorem law_exactSegTerms (c:GConf)(s:GSeg)(n:Str)(hc:ConfLen c)(hs:SegLen s): ∃F,M.laws_FnExactSegTerms F c s n=some true:=by
 refine⟨10000000,?_⟩
 generalize hF:10000000=F
 unfold M.laws_FnExactSegTerms
 cases decide ((1048576:Int)<(n.length:Int))
 case true=>rfl
 obtain⟨r,hr,h1⟩:=szConf F c 1048576 (by omega) (by omega) (by omega) hc
 rw [cond_false,hr,Option.bind_some]
 by_cases hn:r<0
 ·rw [decide_eq_true hn];rfl
 obtain⟨hle,hcb⟩:=h1 (by omega)
 obtain⟨q,hq,h2⟩:=szSeg F s r (by omega) hle (by omega) hs
 rw [decide_eq_false hn,cond_false,hq,Option.bind_some]
 by_cases hn2:q<0
 ·rw [decide_eq_true hn2];rfl
 obtain⟨_,hsb⟩:=h2 (by omega)
 have hd:=hsb.1.1
 have hst:=hcb.1.1
 have hlen:(segTermsS c s n).length≤10000:=by
  unfold segTermsS
  cases ho:segOk c s
  ·exact Nat.zero_le _
  obtain⟨h1,h2,h3⟩:=seg_is ho
  have hfit:Fits 10000 s.Entries:=by rw [h3];exact(seg_fits h2).le (by omega)
  have:=hfit.1
  have:=termsAt_len (s:=s) (n:=n)
  rw [if_pos rfl];omega
 have hi:=impl_segTerms F c s n (by omega) (by omega) (by omega)
 have hsp:=spec_segTermsX F c s n hcb hsb (by omega)
 generalize segTermsS c s n=ws at *
 have heq:=eqStrs F ws (by omega) (by omega)
 have htc:=toConf F c (by omega) hcb
 have hts:=toSeg F s (by omega) hsb
 obtain⟨m,hm,hml⟩:=mkConf F c 1 (by omega) hcb (by omega)
 obtain⟨m',hm',_⟩:=mkSeg F s m (by omega) hsb (by omega)
 have hm1:M.laws_markConf F c 1=some (m:Int):=hm
 have hk:=kapStr_nat 1 (by omega) ws.length (by omega)
 have hk':decide (kapStr 1 ws.length<0)=false:=decide_eq_false (by rw [show (1:Int)=((1:Nat):Int) from rfl,hk];omega)
 rw [decide_eq_false hn2,cond_false,htc,Option.bind_some,hts,Option.bind_some,hsp,Option.bind_some,Option.bind_some,Option.bind_some,hi,Option.bind_some,heq,Option.bind_some,Bool.not_true,cond_false,Option.bind_some,eqConf F c (by omega) hcb,Option.bind_some,Bool.not_true,cond_false,Option.bind_some,eqSeg F s (by omega) hsb,Option.bind_some,Bool.not_true,cond_false,hm1,Option.bind_some,hm',Option.bind_some,decide_eq_false (by omega),cond_false,Option.bind_some,Bool.not_true,Option.bind_some,cond_false,show M.laws_markStringS F ws 1=_ from markTexts F ws 1 (by omega) (by omega) (by omega),Option.bind_some,show M.laws_heldStringS F (marksStr F ws.length 1) 1=_ from heldTexts F _ 1 (by omega) (by omega) (by omega),Option.bind_some,show ((1:Nat):Int)=1 from rfl,hk',cond_false,beq_self_eq_true,Bool.not_true,cond_false,Option.bind_some,Option.bind_some,hi,Option.bind_some,heq,Option.bind_some,Bool.not_true,cond_false,Option.bind_some,hk',cond_false,beq_self_eq_true]
 rfl
end Go.Fk
