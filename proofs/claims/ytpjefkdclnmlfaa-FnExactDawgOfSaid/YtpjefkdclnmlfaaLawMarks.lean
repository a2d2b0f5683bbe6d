import Derived.Test.YtpjefkdclnmlfaaLawKeep
import Derived.Test.YtpjefkdclnmlfaaModel
import Derived.Test.YtpjefkdclnmlfaaCoreMm
/-
  Marks of texts: what is written over handed-back texts is there afterwards. Of no program.
-/
set_option linter.unusedVariables false
namespace Go.Fk
open Go
theorem zt_run {σ τ:Type}{n:Nat}{st:Nat→σ}{r:τ}{f:σ→Option (σ⊕τ)}(h: ∀i,i<n→f (st i)=some (.inl (st (i+1))))(h0:f (st n)=some (.inr r)): ∀k i F,i+k=n→k<F→whileM f F (st i)=some r
 | 0,i,F,e,hF=>by
  obtain⟨F,rfl⟩: ∃G,F=G+1:=⟨F-1,by omega⟩
  obtain rfl:i=n:=by omega
  rw [whileM,h0];rfl
 | k+1,i,F,e,hF=>by
  obtain⟨F,rfl⟩: ∃G,F=G+1:=⟨F-1,by omega⟩
  rw [whileM,h i (by omega),Option.bind_some]
  exact zt_run h h0 k (i+1) F (by omega) (by omega)
theorem zt_text {f:Int×Str→Option ((Int×Str)⊕Str)}(hf: ∀(x:Int) (acc:Str),0<x→x≤9223372036854775807→acc.length≤1000→∃acc':Str,f (x,acc)=some (.inl (x/10,acc'))∧acc'.length=acc.length+1)
  (h0: ∀(x:Int) (acc:Str),¬0<x→f (x,acc)=some (.inr acc)): ∀(n:Nat) (x:Int) (acc:Str) (F:Nat),0≤x→x≤9223372036854775807→x<10 ^ n→n<F→acc.length+n≤1000→∃s:Str,whileM f F (x,acc)=some s∧s.length≤1000
 | 0,x,acc,F,hx,hx2,hx1,hF,hl=>by
  obtain⟨F,rfl⟩: ∃G,F=G+1:=⟨F-1,by omega⟩
  have: ¬0<x:=by
   rw [Int.pow_zero] at hx1;omega
  rw [whileM,h0 x acc this]
  exact⟨acc,rfl,by omega⟩
 | n+1,x,acc,F,hx,hx2,hx1,hF,hl=>by
  obtain⟨F,rfl⟩: ∃G,F=G+1:=⟨F-1,by omega⟩
  by_cases h:0<x
  ·obtain⟨acc',e,el⟩:=hf x acc h hx2 (by omega)
   rw [whileM,e,Option.bind_some]
   rw [Int.pow_succ] at hx1
   exact zt_text hf h0 n (x/10) acc' F (by omega) (by omega) (by omega) (by omega) (by omega)
  ·rw [whileM,h0 x acc h]
   exact⟨acc,rfl,by omega⟩
theorem markText_ok (F:Nat)(k:Int)(hF:1000<F)(hk:k≤9223372036854775807): ∃s,M.laws_markText F k=some s:=by
 have hm:10000≤maxLen:=by decide
 unfold M.laws_markText
 by_cases h0:k≤0
 ·rw [decide_eq_true h0];exact⟨_,rfl⟩
 ·rw [decide_eq_false h0,cond_false]
  generalize hf:(fun (s12:Int×Str)=>_:Int×Str→Option ((Int×Str)⊕Str))=f
  obtain⟨s,hs,hl⟩:=zt_text (f:=f) (fun x acc hx hx2 ha=>by
   subst hf
   have e:x.tdiv 10=x/10:=Int.tdiv_eq_ediv_of_nonneg (by omega)
   refine⟨[byteOfI (w64 (48+x.tmod 10))]++acc,?_,by simp⟩
   dsimp only
   rw [decide_eq_true hx,cond_true,show remI x 10=some (x.tmod 10) from if_neg (by decide),Option.bind_some,catS,if_pos (by simp only [List.length_singleton];omega),Option.bind_some,show quoI x 10=some (w64 (x.tdiv 10)) from if_neg (by decide),Option.bind_some,e,w64_of ⟨by omega,by omega⟩]) (fun x acc hx=>by
   subst hf
   dsimp only
   rw [decide_eq_false hx];rfl) 19 k [] F (by omega) hk (by omega) (by omega) (by simp)
  rw [hs,Option.bind_some,Option.bind_some,catS,if_pos (by simp only [List.length_singleton];omega)]
  exact⟨_,rfl⟩
end Go.Fk
set_option linter.unusedVariables false
namespace Go.Fk
open Go
theorem run_marks {α:Type}{step:Int→α→α×Int}{xs:List α}(k B F:Nat)(hl:xs.length≤1048576)(hF:2000000<F)(hk:k+1048576*B≤9000000000000000000)
  (hs: ∀(v:Nat) x,x∈xs→v+B≤9000000000000000000→∃r:Nat,(step (v:Int) x).2=(r:Int)∧r≤v+B){τ:Type}{fin:Int→τ}{f:Int×Int→Option ((Int×Int)⊕τ)}
  (h: ∀(i v:Nat) x,xs[i]? =some x→i<xs.length→v+B≤9000000000000000000→(mkRow step (k:Int) xs).1[i]? =some (step (v:Int) x).1→f ((v:Int),(i:Int))=some (.inl ((step (v:Int) x).2,((i+1:Nat):Int))))
  (h0: ∀v:Nat,f ((v:Int),(xs.length:Int))=some (.inr (fin (v:Int)))):whileM f F ((k:Int),(0:Int))=some (fin (mkRow step (k:Int) xs).2):=by
 have hm:=Nat.mul_le_mul_right B hl
 have hn:=mkAt_nat (k:=k) hs (by omega)
 rw [←mkAt_all]
 refine zt_run (f:=f) (n:=xs.length) (st:=fun i=>(mkAt step (k:Int) xs i,(i:Int))) (fun i hi=>?_) ?_ xs.length 0 F (by omega) (by omega)
 ·obtain⟨v,hv,hvl⟩:=hn i (by omega)
  have hx:=List.getElem?_eq_getElem hi
  have hb:=Nat.mul_le_mul_right B (show i+1≤xs.length from hi)
  rw [Nat.add_mul,Nat.one_mul] at hb
  have hg:=mkRow_get (step:=step) (k:=(k:Int)) hx
  rw [hv] at hg
  show f (mkAt step (k:Int) xs i,(i:Int))=_
  rw [mkAt_succ hx,hv,h i v _ hx hi (by omega) hg]
 ·obtain⟨v,hv,_⟩:=hn xs.length (Nat.le_refl _)
  show f (mkAt step (k:Int) xs xs.length,(xs.length:Int))=some (.inr (fin (mkAt step (k:Int) xs xs.length)))
  rw [hv,h0]
theorem row_end {α:Type}{step:Int→α→α×Int}{xs:List α}(k B:Nat)(hl:xs.length≤1048576)(hk:k+1048576*B≤9000000000000000000)
  (hs: ∀(v:Nat) x,x∈xs→v+B≤9000000000000000000→∃r:Nat,(step (v:Int) x).2=(r:Int)∧r≤v+B): ∃r:Nat,(mkRow step (k:Int) xs).2=(r:Int)∧r≤k+1048576*B:=by
 have hm:=Nat.mul_le_mul_right B hl
 obtain⟨r,hr,hle⟩:=mkAt_nat (k:=k) hs (by omega) xs.length (Nat.le_refl _)
 rw [mkAt_all] at hr
 exact⟨r,hr,by omega⟩
end Go.Fk
set_option linter.unusedVariables false
namespace Go.Fk
open Go
theorem arc_step (F:Nat)(xs:List GArc): ∀(v:Nat) x,x∈xs→v+2≤9000000000000000000→∃r:Nat,(stepGArc F (v:Int) x).2=(r:Int)∧r≤v+2:=fun v x _ hv=>
 ⟨v+1+1,by unfold stepGArc;rw [w64_succ' (i:=v) (by omega),w64_succ' (i:=v+1) (by omega)],by omega⟩
theorem arcs_end (F:Nat)(xs:List GArc)(k:Nat)(hl:xs.length≤1048576)(hk:k+1048576*2≤9000000000000000000): ∃r:Nat,(mkRow (stepGArc F) (k:Int) xs).2=(r:Int)∧r≤k+1048576*2:=row_end k 2 hl hk (arc_step F xs)
theorem mEqArcs (F:Nat)(xs:List GArc)(k:Nat)(hF:2000000<F)(hl:xs.length≤1048576)(hk:k+1048576*2≤9000000000000000000):M.laws_markArcS F xs (k:Int)=some (mkRow (stepGArc F) (k:Int) xs).2:=by
 unfold M.laws_markArcS
 rw [run_marks k 2 F hl hF hk (arc_step F xs) (fin:=id) (fun i v x hx hi hv _=>?_) fun v=>?_]
 ·rfl
 ·have hg:getI xs (i:Int)=some x:=by rw [getI_nat',hx]
  unfold stepGArc
  dsimp only
  rw [decide_eq_true (by omega),cond_true,hg,Option.bind_some,Option.bind_some,w64_succ' (i:=i) (by omega)]
 ·dsimp only
  rw [decide_eq_false (by omega)];rfl
theorem heldArcs (F:Nat)(xs:List GArc)(k:Nat)(hF:2000000<F)(hl:xs.length≤1048576)(hk:k+1048576*2≤9000000000000000000):M.laws_heldArcS F (mkRow (stepGArc F) (k:Int) xs).1 (k:Int)=some (mkRow (stepGArc F) (k:Int) xs).2:=by
 unfold M.laws_heldArcS
 rw [mkRow_len,run_marks k 2 F hl hF hk (arc_step F xs) (fin:=Sum.inl) (fun i v x hx hi hv hg=>?_) fun v=>?_]
 ·rfl
 ·have hst:stepGArc F (v:Int) x=(⟨byteOfI (v:Int),w64 ((v:Int)+1)⟩,w64 (w64 ((v:Int)+1)+1)):=rfl
  rw [hst] at hg ⊢
  dsimp only
  rw [decide_eq_true (by omega),cond_true,getI_nat',hg,Option.bind_some,Option.bind_some,beq_self_eq_true,Bool.not_true,cond_false,beq_self_eq_true,Bool.not_true,cond_false,w64_succ' (i:=i) (by omega)]
 ·dsimp only
  rw [decide_eq_false (by omega)];rfl
theorem rem3 (k:Int):remI k 3=some (k.tmod 3):=if_neg (by decide)
theorem state_stepN (F:Nat)(x:GState)(h:x.Arcs.length≤1048576)(v:Nat)(hv:v+2097160≤9000000000000000000): ∃a:Nat,(mkRow (stepGArc F) (w64 (w64 ((v:Int)+1)+1)) x.Arcs).2=(a:Int)∧a≤v+2097160:=by
 rw [w64_succ' (i:=v) (by omega),w64_succ' (i:=v+1) (by omega)]
 obtain⟨a,ha,hal⟩:=arcs_end F x.Arcs (v+1+1) h (by omega)
 exact⟨a,ha,by omega⟩
theorem state_step (F:Nat)(xs:List GState)(h: ∀d∈xs,d.Arcs.length≤1048576): ∀(v:Nat) x,x∈xs→v+2097160≤9000000000000000000→∃r:Nat,(stepGState F (v:Int) x).2=(r:Int)∧r≤v+2097160:=fun v x hx hv=>by
 obtain⟨a,ha,hal⟩:=state_stepN F x (h x hx) v hv
 exact⟨a,ha,hal⟩
theorem states_end (F:Nat)(xs:List GState)(k:Nat)(hl:xs.length≤1048576∧∀d∈xs,d.Arcs.length≤1048576)(hk:k+1048576*2097160≤9000000000000000000): ∃r:Nat,(mkRow (stepGState F) (k:Int) xs).2=(r:Int)∧r≤k+1048576*2097160:=row_end k 2097160 hl.1 hk (state_step F xs hl.2)
theorem mEqStates (F:Nat)(xs:List GState)(k:Nat)(hF:2000000<F)(hl:xs.length≤1048576∧∀d∈xs,d.Arcs.length≤1048576)(hk:k+1048576*2097160≤9000000000000000000):M.laws_markStateS F xs (k:Int)=some (mkRow (stepGState F) (k:Int) xs).2:=by
 have hle:=hl.1
 unfold M.laws_markStateS
 rw [run_marks k 2097160 F hl.1 hF hk (state_step F xs hl.2) (fin:=id) (fun i v x hx hi hv _=>?_) fun v=>?_]
 ·rfl
 ·have hb:=hl.2 x (List.mem_of_getElem? hx)
  have hg:getI xs (i:Int)=some x:=by rw [getI_nat',hx]
  unfold stepGState
  dsimp only
  rw [decide_eq_true (by omega),cond_true,rem3,Option.bind_some,hg,Option.bind_some,Option.bind_some,Option.bind_some,w64_succ' (i:=v) (by omega),w64_succ' (i:=v+1) (by omega),mEqArcs F _ (v+1+1) hF hb (by omega),Option.bind_some,w64_succ' (i:=i) (by omega)]
 ·dsimp only
  rw [decide_eq_false (by omega)];rfl
theorem heldStates (F:Nat)(xs:List GState)(k:Nat)(hF:2000000<F)(hl:xs.length≤1048576∧∀d∈xs,d.Arcs.length≤1048576)(hk:k+1048576*2097160≤9000000000000000000):M.laws_heldStateS F (mkRow (stepGState F) (k:Int) xs).1 (k:Int)=some (mkRow (stepGState F) (k:Int) xs).2:=by
 have hle:=hl.1
 unfold M.laws_heldStateS
 rw [mkRow_len,run_marks k 2097160 F hl.1 hF hk (state_step F xs hl.2) (fin:=Sum.inl) (fun i v x hx hi hv hg=>?_) fun v=>?_]
 ·rfl
 ·have hb:=hl.2 x (List.mem_of_getElem? hx)
  obtain⟨a,ha,_⟩:=state_stepN F x hb v hv
  rw [w64_succ' (i:=v) (by omega),w64_succ' (i:=v+1) (by omega)] at ha
  have hst:stepGState F (v:Int) x=(⟨((v:Int).tmod 3==0),((v+1:Nat):Int),(mkRow (stepGArc F) ((v+1+1:Nat):Int) x.Arcs).1⟩,(a:Int)):=by
   unfold stepGState
   rw [rem3,w64_succ' (i:=v) (by omega),w64_succ' (i:=v+1) (by omega),ha];rfl
  rw [hst] at hg ⊢
  dsimp only
  rw [decide_eq_true (by omega),cond_true,getI_nat',hg,Option.bind_some,rem3,Option.bind_some,Option.bind_some]
  dsimp only
  rw [beq_self_eq_true,Bool.not_true,cond_false,w64_succ' (i:=v) (by omega),beq_self_eq_true,Bool.not_true,cond_false,Option.bind_some,w64_succ' (i:=v+1) (by omega),heldArcs F _ (v+1+1) hF hb (by omega),ha,Option.bind_some,decide_eq_false (by omega),cond_false,w64_succ' (i:=i) (by omega)]
 ·dsimp only
  rw [decide_eq_false (by omega)];rfl
end Go.Fk
