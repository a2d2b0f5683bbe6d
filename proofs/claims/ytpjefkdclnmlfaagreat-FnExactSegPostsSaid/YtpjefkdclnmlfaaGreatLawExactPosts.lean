/-
  The program's SegPosts is the reference's, for all segments, and neither keeps nor hands back what is the caller's. Of no program.
-/
import Derived.Test.YtpjefkdclnmlfaaGreatLawMarks
import Derived.Test.YtpjefkdclnmlfaaGreatLawExactA
import Derived.Test.YtpjefkdclnmlfaaGreatLawPs
set_option linter.unusedVariables false
namespace Go.Fk
open Go
theorem spec_segPostsX (F:Nat)(c:GConf)(s:GSeg)(n t:Str)(hc:ConfBig c)(hs:SegBig s)(hF:5000000<F):M.spec_SegPosts F c s n t=some (if segOk c s then postsAt s n t else []):=by
 unfold M.spec_SegPosts
 rw [spec_okX F c s hc hs hF,Option.bind_some]
 cases ho:segOk c s
 ·rfl
 obtain⟨h1,h2,h3⟩:=seg_is ho
 have hfit:Fits 10000 s.Entries:=by rw [h3];exact(seg_fits h2).le (by omega)
 rw [Bool.not_true,cond_false,spec_findPosts F s n t hfit.1 (by omega),Option.bind_some,spec_copyPosts F _ (postsAt_fits ho n t) (by omega)];rfl
theorem law_exactSegPosts (c:GConf)(s:GSeg)(n t:Str)(hc:ConfLen c)(hs:SegLen s): ∃F,M.laws_FnExactSegPosts F c s n t=some true:=by
 refine⟨10000000,?_⟩
 generalize hF:10000000=F
 unfold M.laws_FnExactSegPosts
 cases decide ((1048576:Int)<(n.length:Int))
 case true=>rfl
 cases decide ((1048576:Int)<(t.length:Int))
 case true=>rfl
 obtain⟨r,hr,h1⟩:=szConf F c 1048576 (by omega) (by omega) (by omega) hc
 rw [cond_false,cond_false,hr,Option.bind_some]
 by_cases hn:r<0
 ·rw [decide_eq_true hn];rfl
 obtain⟨hle,hcb⟩:=h1 (by omega)
 obtain⟨q,hq,h2⟩:=szSeg F s r (by omega) hle (by omega) hs
 rw [decide_eq_false hn,cond_false,hq,Option.bind_some]
 by_cases hn2:q<0
 ·rw [decide_eq_true hn2];rfl
 obtain⟨_,hsb⟩:=h2 (by omega)
 have hd:=hsb.1.1
 have hst:=hcb.1.1
 have hi:=impl_segPosts F c s n t (by omega) (by omega) (by omega)
 have hsp:=spec_segPostsX F c s n t hcb hsb (by omega)
 have hxb:(if segOk c s then postsAt s n t else []).length≤1048576∧∀p∈(if segOk c s then postsAt s n t else []),p.At.length≤1048576:=by
  split
  ·rename_i ho
   have:=postsAt_fits ho n t
   exact⟨by omega,fun p hp=>by have:=this.2 p hp;omega⟩
  ·exact⟨Nat.zero_le _,fun p hp=>by cases hp⟩
 generalize (if segOk c s then postsAt s n t else [])=xs at *
 have heq:=eqPosts F xs (by omega) hxb
 have htc:=toConf F c (by omega) hcb
 have hts:=toSeg F s (by omega) hsb
 obtain⟨m,hm,hml⟩:=mkConf F c 1 (by omega) hcb (by omega)
 obtain⟨m',hm',_⟩:=mkSeg F s m (by omega) hsb (by omega)
 have hm1:M.laws_markConf F c 1=some (m:Int):=hm
 obtain⟨k,hk,_⟩:=posts_end F xs 1 hxb (by omega)
 have hmk:M.laws_markPostS F xs 1=some (k:Int):=(mEqPosts F xs 1 (by omega) hxb (by omega)).trans (congrArg some hk)
 have hhd:M.laws_heldPostS F (mkRow (stepGPost F) (1:Int) xs).1 1=some (k:Int):=(heldPosts F xs 1 (by omega) hxb (by omega)).trans (congrArg some hk)
 rw [decide_eq_false hn2,cond_false,htc,Option.bind_some,hts,Option.bind_some,hsp,Option.bind_some,Option.bind_some,Option.bind_some,hi,Option.bind_some,heq,Option.bind_some,Bool.not_true,cond_false,Option.bind_some,eqConf F c (by omega) hcb,Option.bind_some,Bool.not_true,cond_false,Option.bind_some,eqSeg F s (by omega) hsb,Option.bind_some,Bool.not_true,cond_false,hm1,Option.bind_some,hm',Option.bind_some,decide_eq_false (by omega),cond_false,Option.bind_some,Bool.not_true,Option.bind_some,cond_false,hmk,Option.bind_some,hhd,Option.bind_some,decide_eq_false (by omega),cond_false,beq_self_eq_true,Bool.not_true,cond_false,Option.bind_some,Option.bind_some,hi,Option.bind_some,heq,Option.bind_some,Bool.not_true,cond_false,Option.bind_some,decide_eq_false (by omega),cond_false,beq_self_eq_true]
 rfl
end Go.Fk
