/-
  Marks of texts: what is written over handed-back texts is there afterwards. Of no program.
-/
import Derived.Test.YtepcfgnicnibnaaGreatLawKeep
import Derived.Test.YtepcfgnicnibnaaGreatModel
set_option linter.unusedVariables false
namespace Go.Fk
open Go
theorem zt_run {σ τ:Type}{n:Nat}{st:Nat→σ}{r:τ}{f:σ→Option (σ⊕τ)}(h: ∀i,i<n→f (st i)=some (.inl (st (i+1))))(h0:f (st n)=some (.inr r)): ∀k i F,i+k=n→k<F→whileM f F (st i)=some r
 | 0,i,F,e,hF=>by
  obtain⟨F,rfl⟩: ∃G,F=G+1:=⟨F-1,by omega⟩
  obtain rfl:i=n:=by omega
  rw [whileM,h0];rfl
 | k+1,i,F,e,hF=>by
  obtain⟨F,rfl⟩: ∃G,F=G+1:=⟨F-1,by omega⟩
  rw [whileM,h i (by omega),Option.bind_some]
  exact zt_run h h0 k (i+1) F (by omega) (by omega)
theorem zt_text {f:Int×Str→Option ((Int×Str)⊕Str)}(hf: ∀(x:Int) (acc:Str),0<x→x≤9223372036854775807→acc.length≤1000→∃acc':Str,f (x,acc)=some (.inl (x/10,acc'))∧acc'.length=acc.length+1)
  (h0: ∀(x:Int) (acc:Str),¬0<x→f (x,acc)=some (.inr acc)): ∀(n:Nat) (x:Int) (acc:Str) (F:Nat),0≤x→x≤9223372036854775807→x<10 ^ n→n<F→acc.length+n≤1000→∃s:Str,whileM f F (x,acc)=some s∧s.length≤1000
 | 0,x,acc,F,hx,hx2,hx1,hF,hl=>by
  obtain⟨F,rfl⟩: ∃G,F=G+1:=⟨F-1,by omega⟩
  have: ¬0<x:=by
   rw [Int.pow_zero] at hx1;omega
  rw [whileM,h0 x acc this]
  exact⟨acc,rfl,by omega⟩
 | n+1,x,acc,F,hx,hx2,hx1,hF,hl=>by
  obtain⟨F,rfl⟩: ∃G,F=G+1:=⟨F-1,by omega⟩
  by_cases h:0<x
  ·obtain⟨acc',e,el⟩:=hf x acc h hx2 (by omega)
   rw [whileM,e,Option.bind_some]
   rw [Int.pow_succ] at hx1
   exact zt_text hf h0 n (x/10) acc' F (by omega) (by omega) (by omega) (by omega) (by omega)
  ·rw [whileM,h0 x acc h]
   exact⟨acc,rfl,by omega⟩
theorem markText_ok (F:Nat)(k:Int)(hF:1000<F)(hk:k≤9223372036854775807): ∃s,M.laws_markText F k=some s:=by
 have hm:10000≤maxLen:=by decide
 unfold M.laws_markText
 by_cases h0:k≤0
 ·rw [decide_eq_true h0];exact⟨_,rfl⟩
 ·rw [decide_eq_false h0,cond_false]
  generalize hf:(fun (s12:Int×Str)=>_:Int×Str→Option ((Int×Str)⊕Str))=f
  obtain⟨s,hs,hl⟩:=zt_text (f:=f) (fun x acc hx hx2 ha=>by
   subst hf
   have e:x.tdiv 10=x/10:=Int.tdiv_eq_ediv_of_nonneg (by omega)
   refine⟨[byteOfI (w64 (48+x.tmod 10))]++acc,?_,by simp⟩
   dsimp only
   rw [decide_eq_true hx,cond_true,show remI x 10=some (x.tmod 10) from if_neg (by decide),Option.bind_some,catS,if_pos (by simp only [List.length_singleton];omega),Option.bind_some,show quoI x 10=some (w64 (x.tdiv 10)) from if_neg (by decide),Option.bind_some,e,w64_of ⟨by omega,by omega⟩]) (fun x acc hx=>by
   subst hf
   dsimp only
   rw [decide_eq_false hx];rfl) 19 k [] F (by omega) hk (by omega) (by omega) (by simp)
  rw [hs,Option.bind_some,Option.bind_some,catS,if_pos (by simp only [List.length_singleton];omega)]
  exact⟨_,rfl⟩
theorem kapStr_nat (k:Nat)(hk:k≤9000000000000000000): ∀n,n≤2000000→kapStr (k:Int) n=((k+n:Nat):Int)
 | 0,_=>by rw [kapStr];congr 1
 | n+1,h=>by
  rw [kapStr,kapStr_nat k hk n (by omega),w64_of (n:=((k+n:Nat):Int)+1) ⟨by omega,by omega⟩];omega
theorem markTexts (F:Nat)(xs:List Str)(k:Nat)(hk:k≤9000000000000000000)(hF:2000000<F)(hl:xs.length≤1048576):M.laws_markStringS F xs (k:Int)=some (kapStr (k:Int) xs.length):=by
 have hle:=hl
 unfold M.laws_markStringS
 have hw: ∀f:Int×Int→Option ((Int×Int)⊕Int),(∀i,i<xs.length→f (kapStr k i,(i:Int))=some (.inl (kapStr k (i+1),((i+1:Nat):Int))))→f (kapStr k xs.length,(xs.length:Int))=some (.inr (kapStr k xs.length))→whileM f F ((k:Int),(0:Int))=some (kapStr k xs.length):=fun f h h0=>
  zt_run (st:=fun i=>(kapStr k i,(i:Int))) h h0 xs.length 0 F (by omega) (by omega)
 rw [hw _ (fun i hi=>?_) ?_]
 ·rfl
 ·dsimp only
  rw [decide_eq_false (by omega)];rfl
 ·have e:=kapStr_nat k hk i (by omega)
  obtain⟨s,hs⟩:=markText_ok F (kapStr k i) (by omega) (by omega)
  dsimp only
  rw [decide_eq_true (by omega),cond_true,hs,Option.bind_some,getI_at hi,Option.bind_some,w64_succ' (by omega),kapStr]
theorem heldTexts (F n:Nat)(k:Nat)(hk:k≤9000000000000000000)(hF:2000000<F)(hl:n≤1048576):M.laws_heldStringS F (marksStr F n k) (k:Int)=some (kapStr (k:Int) n):=by
 have hn:(marksStr F n k).length=n:=by unfold marksStr;simp
 unfold M.laws_heldStringS
 rw [hn]
 have hw: ∀f:Int×Int→Option ((Int×Int)⊕(Int⊕Int)),(∀i,i<n→f (kapStr k i,(i:Int))=some (.inl (kapStr k (i+1),((i+1:Nat):Int))))→f (kapStr k n,(n:Int))=some (.inr (.inl (kapStr k n)))→whileM f F ((k:Int),(0:Int))=some (.inl (kapStr k n)):=fun f h h0=>
  zt_run (st:=fun i=>(kapStr k i,(i:Int))) h h0 n 0 F (by omega) (by omega)
 rw [hw _ (fun i hi=>?_) ?_]
 ·rfl
 ·dsimp only
  rw [decide_eq_false (by omega)];rfl
 ·have e:=kapStr_nat k hk i (by omega)
  obtain⟨s,hs⟩:=markText_ok F (kapStr k i) (by omega) (by omega)
  have hg:getI (marksStr F n k) (i:Int)=some s:=by
   rw [getI_nat']
   unfold marksStr
   rw [List.getElem?_map,List.getElem?_range hi,Option.map_some,hs];rfl
  dsimp only
  rw [decide_eq_true (by omega),cond_true,hg,Option.bind_some,hs,Option.bind_some,beq_self_eq_true,Bool.not_true,cond_false,w64_succ' (by omega),kapStr]
end Go.Fk
