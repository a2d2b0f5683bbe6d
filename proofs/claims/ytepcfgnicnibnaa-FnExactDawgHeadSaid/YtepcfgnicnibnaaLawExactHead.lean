/-
  The program's DawgHead is the reference's, for all automata, and neither keeps nor hands back what is the caller's. Of no program.
-/
import Derived.Test.YtepcfgnicnibnaaLawMark
import Derived.Test.YtepcfgnicnibnaaLawStates
import Derived.Test.YtepcfgnicnibnaaLawGo
set_option linter.unusedVariables false
namespace Go.Fk
open Go
theorem specHead_okX (F:Nat)(d:Sts)(s:Str)(hF:d.length+s.length+4000000<F)(hl:d.length≤1048576)(hs:s.length≤1048576)(ha: ∀s∈d,s.Arcs.length≤1048576):M.spec_DawgHead F d s=some (if okS d then (wordsOf d).filter (hasPre s) else []):=by
 unfold M.spec_DawgHead
 rw [specOk_ok F d (by omega) hl ha,Option.bind_some]
 cases hok:okS d with
 | false=>rfl
 | true=>
  have hi:=(okS_iff d).1 hok
  have h0:=hi.pos
  have hsh:=hi.shape
  unfold shapeS at hsh
  rw [Bool.and_eq_true,Bool.and_eq_true] at hsh
  obtain⟨hd,ha'⟩:=shape_down hsh.1
  have hml:10000000≤maxLen:=by decide
  rw [Bool.not_true,cond_false,spec_go F d _ s hi (by omega) hl hs,Option.bind_some,if_pos rfl,←hi.words]
  cases hg:goS d (d.length-1) s with
  | none=>
   have hn:=go_none hi.good s (d.length-1) (by omega) hg
   have:(W d (d.length-1)).filter (hasPre s)=[]:=by
    rw [List.filter_eq_nil_iff]
    intro w hw
    rw [hn w hw];simp
   rw [this];rfl
  | some r=>
   obtain⟨x,n⟩:=r
   obtain⟨hx,_⟩:=go_some hi.good s _ x n (by omega) hg
   rw [go_filter hi.good (by omega) hg]
   simp only
   rw [decide_eq_false (by omega),cond_false,all_ok d hd (fun i hi=>small_at hsh.2.2 hi) ha' x F s (by omega) hx (by omega)]
   rfl
theorem markArcs (F:Nat)(xs:List GArc)(k:Nat)(hk:k≤9000000000000000)(hF:2000000<F)(hl:xs.length≤1048576):M.laws_markArcS F xs (k:Int)=some ((k+2*xs.length:Nat):Int):=by
 have hle:=hl
 unfold M.laws_markArcS
 have hw: ∀f:Int×Int→Option ((Int×Int)⊕Int),(∀i,i<xs.length→f (((k+2*i:Nat):Int),(i:Int))=some (.inl (((k+2*(i+1):Nat):Int),((i+1:Nat):Int))))→f (((k+2*xs.length:Nat):Int),(xs.length:Int))=some (.inr ((k+2*xs.length:Nat):Int))→whileM f F ((k:Int),(0:Int))=some ((k+2*xs.length:Nat):Int):=fun f h h0=>
  zt_run (st:=fun i=>(((k+2*i:Nat):Int),(i:Int))) h h0 xs.length 0 F (by omega) (by omega)
 rw [hw _ (fun i hi=>?_) ?_]
 ·rfl
 ·dsimp only
  rw [decide_eq_false (by omega)];rfl
 ·dsimp only
  have e:w64 (w64 (((k+2*i:Nat):Int)+1)+1)=((k+2*(i+1):Nat):Int):=by
   rw [w64_of (n:=((k+2*i:Nat):Int)+1) ⟨by omega,by omega⟩,w64_of (n:=((k+2*i:Nat):Int)+1+1) ⟨by omega,by omega⟩];omega
  rw [decide_eq_true (by omega),cond_true,getI_at hi,Option.bind_some,Option.bind_some,e,w64_succ' (by omega)]
theorem markStates (F:Nat)(xs:List GState)(hF:2000000<F)(h1:xs.length≤1048576)(h2: ∀s∈xs,s.Arcs.length≤1048576): ∃r,M.laws_markStateS F xs 1=some r∧0≤r:=by
 unfold M.laws_markStateS
 let f:Nat→Nat:=fun i=>((xs.take i).map fun s=>2+2*s.Arcs.length).sum+1
 have hf: ∀i,i≤xs.length→f i≤2097154*i+1:=fun i hi=>by
  have gen: ∀ys:List GState,(∀s∈ys,s.Arcs.length≤1048576)→(ys.map fun s=>2+2*s.Arcs.length).sum≤2097154*ys.length:=by
   intro ys
   induction ys with
   | nil=>intro _;simp
   | cons a ys ih=>
    intro h
    have i1:=ih fun s hs=>h s (by simp [hs])
    have i2:=h a (by simp)
    rw [List.map_cons,List.sum_cons,List.length_cons];omega
  have:=gen (xs.take i) fun s hs=>h2 s (List.mem_of_mem_take hs)
  rw [List.length_take] at this
  show _+1≤_
  omega
 have hs: ∀i,(hi:i<xs.length)→f (i+1)=f i+2+2*xs[i].Arcs.length:=fun i hi=>by
  show ((xs.take (i+1)).map fun s=>2+2*s.Arcs.length).sum+1=((xs.take i).map fun s=>2+2*s.Arcs.length).sum+1+2+2*xs[i].Arcs.length
  rw [List.take_succ_eq_append_getElem hi,List.map_append,List.sum_append]
  simp;omega
 have hw: ∀g:Int×Int→Option ((Int×Int)⊕Int),(∀i,(hi:i<xs.length)→g (((f i:Nat):Int),(i:Int))=some (.inl (((f (i+1):Nat):Int),((i+1:Nat):Int))))→g (((f xs.length:Nat):Int),(xs.length:Int))=some (.inr ((f xs.length:Nat):Int))→whileM g F ((1:Int),(0:Int))=some ((f xs.length:Nat):Int):=fun g h h0=>
  zt_run (st:=fun i=>(((f i:Nat):Int),(i:Int))) h h0 xs.length 0 F (by omega) (by omega)
 refine⟨((f xs.length:Nat):Int),?_,by omega⟩
 rw [hw _ (fun i hi=>?_) ?_]
 ·rfl
 ·dsimp only
  rw [decide_eq_false (by omega)];rfl
 ·have hfi:=hf i (by omega)
  have hx:=h2 _ (List.getElem_mem hi)
  have e:w64 (w64 (((f i:Nat):Int)+1)+1)=((f i+2:Nat):Int):=by
   rw [w64_of (n:=((f i:Nat):Int)+1) ⟨by omega,by omega⟩,w64_of (n:=((f i:Nat):Int)+1+1) ⟨by omega,by omega⟩];omega
  dsimp only
  rw [decide_eq_true (by omega),cond_true,show ∀v:Int,remI v 3=some (v.tmod 3) from fun v=>if_neg (by decide),Option.bind_some,getI_at hi,Option.bind_some,Option.bind_some,Option.bind_some,e,markArcs F _ (f i+2) (by omega) hF hx,Option.bind_some,w64_succ' (by omega),hs i hi]
theorem eqTexts (F:Nat)(xs:List Str)(hF:2000000<F)(hl:xs.length≤1048576):M.laws_eqStringS F xs xs=some true:=by
 have hle:=hl
 unfold M.laws_eqStringS
 rw [beq_self_eq_true,Bool.not_true,cond_false,clean0' (n:=xs.length) F (by omega) (fun i hi=>?_) ?_]
 ·rfl
 ·rw [decide_eq_false (by omega)];rfl
 ·rw [decide_eq_true (by omega),cond_true,getI_at hi,Option.bind_some,Option.bind_some,beq_self_eq_true,w64_succ' (by omega)]
  rfl
theorem law_exactHead (d:Sts)(s:Str)(hl:d.length≤maxLen)(ha: ∀s∈d,s.Arcs.length≤maxLen): ∃F,M.laws_FnExactDawgHead F d s=some true:=by
 refine⟨20000000,?_⟩
 generalize hF:20000000=F
 obtain⟨r,hr,hb⟩:=szStateS_ok F d (by omega) hl ha
 unfold M.laws_FnExactDawgHead
 by_cases hs:(1048576:Int)<(s.length:Int)
 ·rw [decide_eq_true hs];rfl
 rw [decide_eq_false hs,cond_false,hr,Option.bind_some]
 by_cases h:r<0
 ·rw [decide_eq_true h];rfl
 obtain⟨h1,h2⟩:=hb (by omega)
 have ht:=toStateS_ok F d (by omega) h1 h2
 have hi:=head_ok F d s (by omega) (by omega)
 have hsp:=specHead_okX F d s (by omega) h1 (by omega) h2
 have hlen:(if okS d then (wordsOf d).filter (hasPre s) else []).length≤40:=by
  cases hok:okS d with
  | false=>simp
  | true=>
   have hf:=((okS_iff d).1 hok).few
   have:=List.length_filter_le (hasPre s) (wordsOf d)
   rw [if_pos rfl];omega
 generalize (if okS d then (wordsOf d).filter (hasPre s) else [])=ws at *
 have heq:=eqTexts F ws (by omega) (by omega)
 obtain⟨m,hm,hm0⟩:=markStates F d (by omega) h1 h2
 have hk:=kapStr_nat 1 (by omega) ws.length (by omega)
 have hk':decide (kapStr 1 ws.length<0)=false:=decide_eq_false (by rw [show (1:Int)=((1:Nat):Int) from rfl,hk];omega)
 rw [decide_eq_false h,cond_false,ht,Option.bind_some,hsp,Option.bind_some,Option.bind_some,hi,Option.bind_some,heq,Option.bind_some,Bool.not_true,cond_false,Option.bind_some,eqStateS_self F d (by omega) h1 h2,Option.bind_some,Bool.not_true,cond_false,hm,Option.bind_some,decide_eq_false (by omega),cond_false,Option.bind_some,Bool.not_true,Option.bind_some,cond_false,show M.laws_markStringS F ws 1=_ from markTexts F ws 1 (by omega) (by omega) (by omega),Option.bind_some,show M.laws_heldStringS F (marksStr F ws.length 1) 1=_ from heldTexts F _ 1 (by omega) (by omega) (by omega),Option.bind_some,show ((1:Nat):Int)=1 from rfl,hk',cond_false,beq_self_eq_true,Bool.not_true,cond_false,Option.bind_some,hi,Option.bind_some,heq,Option.bind_some,Bool.not_true,cond_false,Option.bind_some,hk',cond_false,beq_self_eq_true]
 rfl
end Go.Fk
