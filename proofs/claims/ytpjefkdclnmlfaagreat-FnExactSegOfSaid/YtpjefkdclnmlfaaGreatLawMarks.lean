import Derived.Test.YtpjefkdclnmlfaaGreatLawKeep
import Derived.Test.YtpjefkdclnmlfaaGreatModel
import Derived.Test.YtpjefkdclnmlfaaGreatLawSz
import Derived.Test.YtpjefkdclnmlfaaGreatCoreMm
/-
  Marks of texts: what is written over handed-back texts is there afterwards. Of no program.
-/
set_option linter.unusedVariables false
namespace Go.Fk
open Go
theorem zt_run {σ τ:Type}{n:Nat}{st:Nat→σ}{r:τ}{f:σ→Option (σ⊕τ)}(h: ∀i,i<n→f (st i)=some (.inl (st (i+1))))(h0:f (st n)=some (.inr r)): ∀k i F,i+k=n→k<F→whileM f F (st i)=some r
 | 0,i,F,e,hF=>by
  obtain⟨F,rfl⟩: ∃G,F=G+1:=⟨F-1,by omega⟩
  obtain rfl:i=n:=by omega
  rw [whileM,h0];rfl
 | k+1,i,F,e,hF=>by
  obtain⟨F,rfl⟩: ∃G,F=G+1:=⟨F-1,by omega⟩
  rw [whileM,h i (by omega),Option.bind_some]
  exact zt_run h h0 k (i+1) F (by omega) (by omega)
theorem zt_text {f:Int×Str→Option ((Int×Str)⊕Str)}(hf: ∀(x:Int) (acc:Str),0<x→x≤9223372036854775807→acc.length≤1000→∃acc':Str,f (x,acc)=some (.inl (x/10,acc'))∧acc'.length=acc.length+1)
  (h0: ∀(x:Int) (acc:Str),¬0<x→f (x,acc)=some (.inr acc)): ∀(n:Nat) (x:Int) (acc:Str) (F:Nat),0≤x→x≤9223372036854775807→x<10 ^ n→n<F→acc.length+n≤1000→∃s:Str,whileM f F (x,acc)=some s∧s.length≤1000
 | 0,x,acc,F,hx,hx2,hx1,hF,hl=>by
  obtain⟨F,rfl⟩: ∃G,F=G+1:=⟨F-1,by omega⟩
  have: ¬0<x:=by
   rw [Int.pow_zero] at hx1;omega
  rw [whileM,h0 x acc this]
  exact⟨acc,rfl,by omega⟩
 | n+1,x,acc,F,hx,hx2,hx1,hF,hl=>by
  obtain⟨F,rfl⟩: ∃G,F=G+1:=⟨F-1,by omega⟩
  by_cases h:0<x
  ·obtain⟨acc',e,el⟩:=hf x acc h hx2 (by omega)
   rw [whileM,e,Option.bind_some]
   rw [Int.pow_succ] at hx1
   exact zt_text hf h0 n (x/10) acc' F (by omega) (by omega) (by omega) (by omega) (by omega)
  ·rw [whileM,h0 x acc h]
   exact⟨acc,rfl,by omega⟩
theorem markText_ok (F:Nat)(k:Int)(hF:1000<F)(hk:k≤9223372036854775807): ∃s,M.laws_markText F k=some s:=by
 have hm:10000≤maxLen:=by decide
 unfold M.laws_markText
 by_cases h0:k≤0
 ·rw [decide_eq_true h0];exact⟨_,rfl⟩
 ·rw [decide_eq_false h0,cond_false]
  generalize hf:(fun (s12:Int×Str)=>_:Int×Str→Option ((Int×Str)⊕Str))=f
  obtain⟨s,hs,hl⟩:=zt_text (f:=f) (fun x acc hx hx2 ha=>by
   subst hf
   have e:x.tdiv 10=x/10:=Int.tdiv_eq_ediv_of_nonneg (by omega)
   refine⟨[byteOfI (w64 (48+x.tmod 10))]++acc,?_,by simp⟩
   dsimp only
   rw [decide_eq_true hx,cond_true,show remI x 10=some (x.tmod 10) from if_neg (by decide),Option.bind_some,catS,if_pos (by simp only [List.length_singleton];omega),Option.bind_some,show quoI x 10=some (w64 (x.tdiv 10)) from if_neg (by decide),Option.bind_some,e,w64_of ⟨by omega,by omega⟩]) (fun x acc hx=>by
   subst hf
   dsimp only
   rw [decide_eq_false hx];rfl) 19 k [] F (by omega) hk (by omega) (by omega) (by simp)
  rw [hs,Option.bind_some,Option.bind_some,catS,if_pos (by simp only [List.length_singleton];omega)]
  exact⟨_,rfl⟩
end Go.Fk
set_option linter.unusedVariables false
namespace Go.Fk
open Go
theorem mk_loop {α:Type}{xs:List α}{f:Int×Int→Option ((Int×Int)⊕Int)}(B F:Nat)(hl:xs.length≤1048576)(hF:2000000<F)(k:Nat)(hk:k+1048576*B≤9000000000000000000)
  (h: ∀(i v:Nat) x,xs[i]? =some x→i<xs.length→v+B≤9000000000000000000→∃r:Nat,f ((v:Int),(i:Int))=some (.inl ((r:Int),((i+1:Nat):Int)))∧r≤v+B)
  (h0: ∀v:Nat,f ((v:Int),(xs.length:Int))=some (.inr (v:Int))): ∃r:Nat,(Option.bind (Option.bind (whileM f F ((k:Int),(0:Int))) fun r15=>some r15) fun o6=>some o6)=some (r:Int)∧r≤k+1048576*B:=by
 have gen: ∀(j i v F:Nat),i+j=xs.length→j<F→v+j*B≤9000000000000000000→∃r:Nat,whileM f F ((v:Int),(i:Int))=some (r:Int)∧r≤v+j*B:=by
  intro j
  induction j with
  | zero=>
   intro i v F e hF hv
   obtain⟨F,rfl⟩: ∃G,F=G+1:=⟨F-1,by omega⟩
   obtain rfl:i=xs.length:=by omega
   exact⟨v,by rw [whileM,h0];rfl,by omega⟩
  | succ j ih=>
   intro i v F e hF hv
   obtain⟨F,rfl⟩: ∃G,F=G+1:=⟨F-1,by omega⟩
   rw [Nat.add_mul,Nat.one_mul] at hv
   generalize hc:j*B=c at hv ih
   have hi:i<xs.length:=by omega
   obtain⟨r,hr,hle⟩:=h i v xs[i] (List.getElem?_eq_getElem hi) hi (by omega)
   obtain⟨q,hq,hql⟩:=ih (i+1) r F (by omega) (by omega) (by omega)
   refine⟨q,?_,?_⟩
   ·rw [whileM,hr];exact hq
   ·rw [Nat.add_mul,Nat.one_mul,hc];omega
 have hm:=Nat.mul_le_mul_right B hl
 obtain⟨r,hr,hle⟩:=gen xs.length 0 k F (by omega) (by omega) (by omega)
 refine⟨r,?_,by omega⟩
 rw [show (0:Int)=((0:Nat):Int) from rfl,hr];rfl
theorem mkTexts (F:Nat)(xs:List Str)(k:Nat)(hF:2000000<F)(hl:xs.length≤1048576)(hk:k+1048576≤9000000000000000000): ∃r:Nat,M.laws_markStringS F xs (k:Int)=some (r:Int)∧r≤k+1048576:=by
 unfold M.laws_markStringS
 rw [show k+1048576=k+1048576*1 by omega]
 refine mk_loop 1 F hl hF k (by omega) (fun i v x hx hi hv=>?_) fun v=>?_
 ·obtain⟨s,hs⟩:=markText_ok F (v:Int) (by omega) (by omega)
  refine⟨v+1,?_,by omega⟩
  have hg:getI xs (i:Int)=some x:=by rw [getI_nat',hx]
  dsimp only
  rw [decide_eq_true (by omega),cond_true,hs,Option.bind_some,hg,Option.bind_some,w64_succ' (i:=v) (by omega),w64_succ' (i:=i) (by omega)]
 ·dsimp only
  rw [decide_eq_false (by omega)];rfl
theorem mkSyns (F:Nat)(xs:List GSyn)(k:Nat)(hF:2000000<F)(hl:xs.length≤1048576∧∀s∈xs,SynBig s)(hk:k+1048576*1048577≤9000000000000000000): ∃r:Nat,M.laws_markSynS F xs (k:Int)=some (r:Int)∧r≤k+1048576*1048577:=by
 obtain⟨hl,ha⟩:=hl
 unfold M.laws_markSynS
 refine mk_loop 1048577 F hl hF k hk (fun i v x hx hi hv=>?_) fun v=>?_
 ·have hb:=ha x (List.mem_of_getElem? hx)
  obtain⟨r,hr,hle⟩:=mkTexts F x.From v hF hb.1.1 (by omega)
  obtain⟨s,hs⟩:=markText_ok F (r:Int) (by omega) (by omega)
  refine⟨r+1,?_,by omega⟩
  have hg:getI xs (i:Int)=some x:=by rw [getI_nat',hx]
  dsimp only
  rw [decide_eq_true (by omega),cond_true,hg,Option.bind_some,hr,Option.bind_some,hs,Option.bind_some,Option.bind_some,w64_succ' (i:=r) (by omega),w64_succ' (i:=i) (by omega)]
 ·dsimp only
  rw [decide_eq_false (by omega)];rfl
theorem mkConf (F:Nat)(c:GConf)(k:Nat)(hF:2000000<F)(h:ConfBig c)(hk:k+1048576*1048578≤9000000000000000000): ∃r:Nat,M.laws_markConf F c (k:Int)=some (r:Int)∧r≤k+1048576*1048578:=by
 unfold M.laws_markConf
 obtain⟨r,hr,hle⟩:=mkTexts F c.Stops k hF h.1.1 (by omega)
 obtain⟨q,hq,hqe⟩:=mkSyns F c.Syns r hF h.2 (by omega)
 exact⟨q,by rw [hr,Option.bind_some,hq];rfl,by omega⟩
theorem mkFields (F:Nat)(xs:List GField)(k:Nat)(hF:2000000<F)(hl:xs.length≤1048576)(hk:k+1048576*2≤9000000000000000000): ∃r:Nat,M.laws_markFieldS F xs (k:Int)=some (r:Int)∧r≤k+1048576*2:=by
 unfold M.laws_markFieldS
 refine mk_loop 2 F hl hF k hk (fun i v x hx hi hv=>?_) fun v=>?_
 ·obtain⟨s,hs⟩:=markText_ok F (v:Int) (by omega) (by omega)
  obtain⟨s',hs'⟩:=markText_ok F ((v+1:Nat):Int) (by omega) (by omega)
  refine⟨v+1+1,?_,by omega⟩
  have hg:getI xs (i:Int)=some x:=by rw [getI_nat',hx]
  dsimp only
  rw [decide_eq_true (by omega),cond_true,hs,Option.bind_some,hg,Option.bind_some,w64_succ' (i:=v) (by omega),hs',Option.bind_some,Option.bind_some,w64_succ' (i:=v+1) (by omega),w64_succ' (i:=i) (by omega)]
 ·dsimp only
  rw [decide_eq_false (by omega)];rfl
theorem mkAttrs (F:Nat)(xs:List GAttr)(k:Nat)(hF:2000000<F)(hl:xs.length≤1048576)(hk:k+1048576*2≤9000000000000000000): ∃r:Nat,M.laws_markAttrS F xs (k:Int)=some (r:Int)∧r≤k+1048576*2:=by
 unfold M.laws_markAttrS
 refine mk_loop 2 F hl hF k hk (fun i v x hx hi hv=>?_) fun v=>?_
 ·obtain⟨s,hs⟩:=markText_ok F (v:Int) (by omega) (by omega)
  refine⟨v+1+1,?_,by omega⟩
  have hg:getI xs (i:Int)=some x:=by rw [getI_nat',hx]
  dsimp only
  rw [decide_eq_true (by omega),cond_true,hs,Option.bind_some,hg,Option.bind_some,Option.bind_some,w64_succ' (i:=v) (by omega),w64_succ' (i:=v+1) (by omega),w64_succ' (i:=i) (by omega)]
 ·dsimp only
  rw [decide_eq_false (by omega)];rfl
theorem mkDocs (F:Nat)(xs:List GDoc)(k:Nat)(hF:2000000<F)(hl:xs.length≤1048576∧∀s∈xs,DocBig 1048576 s)(hk:k+1048576*4194305≤9000000000000000000): ∃r:Nat,M.laws_markDocS F xs (k:Int)=some (r:Int)∧r≤k+1048576*4194305:=by
 obtain⟨hl,ha⟩:=hl
 unfold M.laws_markDocS
 refine mk_loop 4194305 F hl hF k hk (fun i v x hx hi hv=>?_) fun v=>?_
 ·have hb:=ha x (List.mem_of_getElem? hx)
  obtain⟨r,hr,hle⟩:=mkFields F x.Fields (v+1) hF hb.fields (by omega)
  obtain⟨q,hq,hqe⟩:=mkAttrs F x.Nums r hF hb.nums (by omega)
  refine⟨q,?_,by omega⟩
  have hg:getI xs (i:Int)=some x:=by rw [getI_nat',hx]
  dsimp only
  rw [decide_eq_true (by omega),cond_true,hg,Option.bind_some,Option.bind_some,w64_succ' (i:=v) (by omega),hr,Option.bind_some,Option.bind_some,hq,Option.bind_some,w64_succ' (i:=i) (by omega)]
 ·dsimp only
  rw [decide_eq_false (by omega)];rfl
end Go.Fk
set_option linter.unusedVariables false
namespace Go.Fk
open Go
theorem run_marks {α:Type}{step:Int→α→α×Int}{xs:List α}(k B F:Nat)(hl:xs.length≤1048576)(hF:2000000<F)(hk:k+1048576*B≤9000000000000000000)
  (hs: ∀(v:Nat) x,x∈xs→v+B≤9000000000000000000→∃r:Nat,(step (v:Int) x).2=(r:Int)∧r≤v+B){τ:Type}{fin:Int→τ}{f:Int×Int→Option ((Int×Int)⊕τ)}
  (h: ∀(i v:Nat) x,xs[i]? =some x→i<xs.length→v+B≤9000000000000000000→(mkRow step (k:Int) xs).1[i]? =some (step (v:Int) x).1→f ((v:Int),(i:Int))=some (.inl ((step (v:Int) x).2,((i+1:Nat):Int))))
  (h0: ∀v:Nat,f ((v:Int),(xs.length:Int))=some (.inr (fin (v:Int)))):whileM f F ((k:Int),(0:Int))=some (fin (mkRow step (k:Int) xs).2):=by
 have hm:=Nat.mul_le_mul_right B hl
 have hn:=mkAt_nat (k:=k) hs (by omega)
 rw [←mkAt_all]
 refine zt_run (f:=f) (n:=xs.length) (st:=fun i=>(mkAt step (k:Int) xs i,(i:Int))) (fun i hi=>?_) ?_ xs.length 0 F (by omega) (by omega)
 ·obtain⟨v,hv,hvl⟩:=hn i (by omega)
  have hx:=List.getElem?_eq_getElem hi
  have hb:=Nat.mul_le_mul_right B (show i+1≤xs.length from hi)
  rw [Nat.add_mul,Nat.one_mul] at hb
  have hg:=mkRow_get (step:=step) (k:=(k:Int)) hx
  rw [hv] at hg
  show f (mkAt step (k:Int) xs i,(i:Int))=_
  rw [mkAt_succ hx,hv,h i v _ hx hi (by omega) hg]
 ·obtain⟨v,hv,_⟩:=hn xs.length (Nat.le_refl _)
  show f (mkAt step (k:Int) xs xs.length,(xs.length:Int))=some (.inr (fin (mkAt step (k:Int) xs xs.length)))
  rw [hv,h0]
theorem row_end {α:Type}{step:Int→α→α×Int}{xs:List α}(k B:Nat)(hl:xs.length≤1048576)(hk:k+1048576*B≤9000000000000000000)
  (hs: ∀(v:Nat) x,x∈xs→v+B≤9000000000000000000→∃r:Nat,(step (v:Int) x).2=(r:Int)∧r≤v+B): ∃r:Nat,(mkRow step (k:Int) xs).2=(r:Int)∧r≤k+1048576*B:=by
 have hm:=Nat.mul_le_mul_right B hl
 obtain⟨r,hr,hle⟩:=mkAt_nat (k:=k) hs (by omega) xs.length (Nat.le_refl _)
 rw [mkAt_all] at hr
 exact⟨r,hr,by omega⟩
end Go.Fk
set_option linter.unusedVariables false
namespace Go.Fk
open Go
theorem field_step (F:Nat)(xs:List GField): ∀(v:Nat) x,x∈xs→v+2≤9000000000000000000→∃r:Nat,(stepGField F (v:Int) x).2=(r:Int)∧r≤v+2:=fun v x _ hv=>
 ⟨v+1+1,by unfold stepGField;rw [w64_succ' (i:=v) (by omega),w64_succ' (i:=v+1) (by omega)],by omega⟩
theorem attr_step (F:Nat)(xs:List GAttr): ∀(v:Nat) x,x∈xs→v+2≤9000000000000000000→∃r:Nat,(stepGAttr F (v:Int) x).2=(r:Int)∧r≤v+2:=fun v x _ hv=>
 ⟨v+1+1,by unfold stepGAttr;rw [w64_succ' (i:=v) (by omega),w64_succ' (i:=v+1) (by omega)],by omega⟩
theorem fields_end (F:Nat)(xs:List GField)(k:Nat)(hl:xs.length≤1048576)(hk:k+1048576*2≤9000000000000000000): ∃r:Nat,(mkRow (stepGField F) (k:Int) xs).2=(r:Int)∧r≤k+1048576*2:=row_end k 2 hl hk (field_step F xs)
theorem attrs_end (F:Nat)(xs:List GAttr)(k:Nat)(hl:xs.length≤1048576)(hk:k+1048576*2≤9000000000000000000): ∃r:Nat,(mkRow (stepGAttr F) (k:Int) xs).2=(r:Int)∧r≤k+1048576*2:=row_end k 2 hl hk (attr_step F xs)
theorem mEqFields (F:Nat)(xs:List GField)(k:Nat)(hF:2000000<F)(hl:xs.length≤1048576)(hk:k+1048576*2≤9000000000000000000):M.laws_markFieldS F xs (k:Int)=some (mkRow (stepGField F) (k:Int) xs).2:=by
 unfold M.laws_markFieldS
 rw [run_marks k 2 F hl hF hk (field_step F xs) (fin:=id) (fun i v x hx hi hv _=>?_) fun v=>?_]
 ·rfl
 ·obtain⟨s,hs⟩:=markText_ok F (v:Int) (by omega) (by omega)
  obtain⟨s',hs'⟩:=markText_ok F ((v+1:Nat):Int) (by omega) (by omega)
  have hg:getI xs (i:Int)=some x:=by rw [getI_nat',hx]
  unfold stepGField
  dsimp only
  rw [decide_eq_true (by omega),cond_true,hs,Option.bind_some,hg,Option.bind_some,w64_succ' (i:=v) (by omega),hs',Option.bind_some,Option.bind_some,w64_succ' (i:=i) (by omega)]
 ·dsimp only
  rw [decide_eq_false (by omega)];rfl
theorem heldFields (F:Nat)(xs:List GField)(k:Nat)(hF:2000000<F)(hl:xs.length≤1048576)(hk:k+1048576*2≤9000000000000000000):M.laws_heldFieldS F (mkRow (stepGField F) (k:Int) xs).1 (k:Int)=some (mkRow (stepGField F) (k:Int) xs).2:=by
 unfold M.laws_heldFieldS
 rw [mkRow_len,run_marks k 2 F hl hF hk (field_step F xs) (fin:=Sum.inl) (fun i v x hx hi hv hg=>?_) fun v=>?_]
 ·rfl
 ·obtain⟨s,hs⟩:=markText_ok F (v:Int) (by omega) (by omega)
  obtain⟨s',hs'⟩:=markText_ok F ((v+1:Nat):Int) (by omega) (by omega)
  have hst:stepGField F (v:Int) x=(⟨s,s'⟩,w64 (w64 ((v:Int)+1)+1)):=by
   unfold stepGField
   rw [hs,w64_succ' (i:=v) (by omega),hs'];rfl
  rw [hst] at hg ⊢
  dsimp only
  rw [decide_eq_true (by omega),cond_true,getI_nat',hg,Option.bind_some,hs,Option.bind_some,Option.bind_some,beq_self_eq_true,Bool.not_true,cond_false,w64_succ' (i:=v) (by omega),hs',Option.bind_some,beq_self_eq_true,Bool.not_true,cond_false,w64_succ' (i:=i) (by omega)]
 ·dsimp only
  rw [decide_eq_false (by omega)];rfl
theorem mEqAttrs (F:Nat)(xs:List GAttr)(k:Nat)(hF:2000000<F)(hl:xs.length≤1048576)(hk:k+1048576*2≤9000000000000000000):M.laws_markAttrS F xs (k:Int)=some (mkRow (stepGAttr F) (k:Int) xs).2:=by
 unfold M.laws_markAttrS
 rw [run_marks k 2 F hl hF hk (attr_step F xs) (fin:=id) (fun i v x hx hi hv _=>?_) fun v=>?_]
 ·rfl
 ·obtain⟨s,hs⟩:=markText_ok F (v:Int) (by omega) (by omega)
  have hg:getI xs (i:Int)=some x:=by rw [getI_nat',hx]
  unfold stepGAttr
  dsimp only
  rw [decide_eq_true (by omega),cond_true,hs,Option.bind_some,hg,Option.bind_some,Option.bind_some,w64_succ' (i:=i) (by omega)]
 ·dsimp only
  rw [decide_eq_false (by omega)];rfl
theorem heldAttrs (F:Nat)(xs:List GAttr)(k:Nat)(hF:2000000<F)(hl:xs.length≤1048576)(hk:k+1048576*2≤9000000000000000000):M.laws_heldAttrS F (mkRow (stepGAttr F) (k:Int) xs).1 (k:Int)=some (mkRow (stepGAttr F) (k:Int) xs).2:=by
 unfold M.laws_heldAttrS
 rw [mkRow_len,run_marks k 2 F hl hF hk (attr_step F xs) (fin:=Sum.inl) (fun i v x hx hi hv hg=>?_) fun v=>?_]
 ·rfl
 ·obtain⟨s,hs⟩:=markText_ok F (v:Int) (by omega) (by omega)
  have hst:stepGAttr F (v:Int) x=(⟨s,w64 ((v:Int)+1)⟩,w64 (w64 ((v:Int)+1)+1)):=by
   unfold stepGAttr
   rw [hs];rfl
  rw [hst] at hg ⊢
  dsimp only
  rw [decide_eq_true (by omega),cond_true,getI_nat',hg,Option.bind_some,hs,Option.bind_some,Option.bind_some,beq_self_eq_true,Bool.not_true,cond_false,beq_self_eq_true,Bool.not_true,cond_false,w64_succ' (i:=i) (by omega)]
 ·dsimp only
  rw [decide_eq_false (by omega)];rfl
theorem doc_stepN (F:Nat)(x:GDoc)(h:DocBig 1048576 x)(v:Nat)(hv:v+4194305≤9000000000000000000): ∃a b:Nat,(mkRow (stepGField F) (w64 ((v:Int)+1)) x.Fields).2=(a:Int)∧(mkRow (stepGAttr F) (a:Int) x.Nums).2=(b:Int)∧a≤v+1+1048576*2∧b≤v+4194305:=by
 rw [w64_succ' (i:=v) (by omega)]
 obtain⟨a,ha,hal⟩:=fields_end F x.Fields (v+1) h.fields (by omega)
 obtain⟨b,hb,hbl⟩:=attrs_end F x.Nums a h.nums (by omega)
 exact⟨a,b,ha,hb,hal,by omega⟩
theorem doc_step (F:Nat)(xs:List GDoc)(h: ∀d∈xs,DocBig 1048576 d): ∀(v:Nat) x,x∈xs→v+4194305≤9000000000000000000→∃r:Nat,(stepGDoc F (v:Int) x).2=(r:Int)∧r≤v+4194305:=fun v x hx hv=>by
 obtain⟨a,b,ha,hb,_,hbl⟩:=doc_stepN F x (h x hx) v hv
 exact⟨b,by unfold stepGDoc;rw [ha];exact hb,hbl⟩
theorem docs_end (F:Nat)(xs:List GDoc)(k:Nat)(hl:xs.length≤1048576∧∀d∈xs,DocBig 1048576 d)(hk:k+1048576*4194305≤9000000000000000000): ∃r:Nat,(mkRow (stepGDoc F) (k:Int) xs).2=(r:Int)∧r≤k+1048576*4194305:=row_end k 4194305 hl.1 hk (doc_step F xs hl.2)
theorem mEqDocs (F:Nat)(xs:List GDoc)(k:Nat)(hF:2000000<F)(hl:xs.length≤1048576∧∀d∈xs,DocBig 1048576 d)(hk:k+1048576*4194305≤9000000000000000000):M.laws_markDocS F xs (k:Int)=some (mkRow (stepGDoc F) (k:Int) xs).2:=by
 have hle:=hl.1
 unfold M.laws_markDocS
 rw [run_marks k 4194305 F hl.1 hF hk (doc_step F xs hl.2) (fin:=id) (fun i v x hx hi hv _=>?_) fun v=>?_]
 ·rfl
 ·have hb:=hl.2 x (List.mem_of_getElem? hx)
  obtain⟨a,b,ha,hbb,hal,_⟩:=doc_stepN F x hb v hv
  have hg:getI xs (i:Int)=some x:=by rw [getI_nat',hx]
  unfold stepGDoc
  dsimp only
  rw [w64_succ' (i:=v) (by omega)] at ha
  rw [decide_eq_true (by omega),cond_true,hg,Option.bind_some,Option.bind_some,w64_succ' (i:=v) (by omega),mEqFields F _ (v+1) hF hb.fields (by omega),Option.bind_some,Option.bind_some,ha,mEqAttrs F _ a hF hb.nums (by omega),Option.bind_some,w64_succ' (i:=i) (by omega)]
 ·dsimp only
  rw [decide_eq_false (by omega)];rfl
theorem heldDocs (F:Nat)(xs:List GDoc)(k:Nat)(hF:2000000<F)(hl:xs.length≤1048576∧∀d∈xs,DocBig 1048576 d)(hk:k+1048576*4194305≤9000000000000000000):M.laws_heldDocS F (mkRow (stepGDoc F) (k:Int) xs).1 (k:Int)=some (mkRow (stepGDoc F) (k:Int) xs).2:=by
 have hle:=hl.1
 unfold M.laws_heldDocS
 rw [mkRow_len,run_marks k 4194305 F hl.1 hF hk (doc_step F xs hl.2) (fin:=Sum.inl) (fun i v x hx hi hv hg=>?_) fun v=>?_]
 ·rfl
 ·have hb:=hl.2 x (List.mem_of_getElem? hx)
  obtain⟨a,b,ha,hbb,hal,_⟩:=doc_stepN F x hb v hv
  rw [w64_succ' (i:=v) (by omega)] at ha
  have hst:stepGDoc F (v:Int) x=(⟨(v:Int),(mkRow (stepGField F) ((v+1:Nat):Int) x.Fields).1,(mkRow (stepGAttr F) (a:Int) x.Nums).1⟩,(b:Int)):=by
   unfold stepGDoc
   rw [w64_succ' (i:=v) (by omega),ha,hbb]
  rw [hst] at hg ⊢
  dsimp only
  rw [decide_eq_true (by omega),cond_true,getI_nat',hg,Option.bind_some,beq_self_eq_true,Bool.not_true,cond_false,Option.bind_some]
  dsimp only
  rw [w64_succ' (i:=v) (by omega),heldFields F _ (v+1) hF hb.fields (by omega),ha,Option.bind_some,decide_eq_false (by omega),cond_false,Option.bind_some,heldAttrs F _ a hF hb.nums (by omega),hbb,Option.bind_some,decide_eq_false (by omega),cond_false,w64_succ' (i:=i) (by omega)]
 ·dsimp only
  rw [decide_eq_false (by omega)];rfl
end Go.Fk
set_option linter.unusedVariables false
namespace Go.Fk
open Go
theorem int_step (F:Nat)(xs:List Int): ∀(v:Nat) x,x∈xs→v+2≤9000000000000000000→∃r:Nat,(stepInt F (v:Int) x).2=(r:Int)∧r≤v+2:=fun v x _ hv=>
 ⟨v+1,by unfold stepInt;rw [w64_succ' (i:=v) (by omega)],by omega⟩
theorem ints_end (F:Nat)(xs:List Int)(k:Nat)(hl:xs.length≤1048576)(hk:k+1048576*2≤9000000000000000000): ∃r:Nat,(mkRow (stepInt F) (k:Int) xs).2=(r:Int)∧r≤k+1048576*2:=row_end k 2 hl hk (int_step F xs)
theorem mEqInts (F:Nat)(xs:List Int)(k:Nat)(hF:2000000<F)(hl:xs.length≤1048576)(hk:k+1048576*2≤9000000000000000000):M.laws_markIntS F xs (k:Int)=some (mkRow (stepInt F) (k:Int) xs).2:=by
 unfold M.laws_markIntS
 rw [run_marks k 2 F hl hF hk (int_step F xs) (fin:=id) (fun i v x hx hi hv _=>?_) fun v=>?_]
 ·rfl
 ·have hg:getI xs (i:Int)=some x:=by rw [getI_nat',hx]
  unfold stepInt
  dsimp only
  rw [decide_eq_true (by omega),cond_true,hg,Option.bind_some,w64_succ' (i:=i) (by omega)]
 ·dsimp only
  rw [decide_eq_false (by omega)];rfl
theorem heldInts (F:Nat)(xs:List Int)(k:Nat)(hF:2000000<F)(hl:xs.length≤1048576)(hk:k+1048576*2≤9000000000000000000):M.laws_heldIntS F (mkRow (stepInt F) (k:Int) xs).1 (k:Int)=some (mkRow (stepInt F) (k:Int) xs).2:=by
 unfold M.laws_heldIntS
 rw [mkRow_len,run_marks k 2 F hl hF hk (int_step F xs) (fin:=Sum.inl) (fun i v x hx hi hv hg=>?_) fun v=>?_]
 ·rfl
 ·have hst:stepInt F (v:Int) x=((v:Int),w64 ((v:Int)+1)):=rfl
  rw [hst] at hg ⊢
  dsimp only
  rw [decide_eq_true (by omega),cond_true,getI_nat',hg,Option.bind_some,beq_self_eq_true,Bool.not_true,cond_false,w64_succ' (i:=i) (by omega)]
 ·dsimp only
  rw [decide_eq_false (by omega)];rfl
theorem post_stepN (F:Nat)(x:GPost)(h:x.At.length≤1048576)(v:Nat)(hv:v+2097160≤9000000000000000000): ∃a:Nat,(mkRow (stepInt F) (w64 ((v:Int)+1)) x.At).2=(a:Int)∧a≤v+2097160:=by
 rw [w64_succ' (i:=v) (by omega)]
 obtain⟨a,ha,hal⟩:=ints_end F x.At (v+1) h (by omega)
 exact⟨a,ha,by omega⟩
theorem post_step (F:Nat)(xs:List GPost)(h: ∀d∈xs,d.At.length≤1048576): ∀(v:Nat) x,x∈xs→v+2097160≤9000000000000000000→∃r:Nat,(stepGPost F (v:Int) x).2=(r:Int)∧r≤v+2097160:=fun v x hx hv=>by
 obtain⟨a,ha,hal⟩:=post_stepN F x (h x hx) v hv
 exact⟨a,ha,hal⟩
theorem posts_end (F:Nat)(xs:List GPost)(k:Nat)(hl:xs.length≤1048576∧∀d∈xs,d.At.length≤1048576)(hk:k+1048576*2097160≤9000000000000000000): ∃r:Nat,(mkRow (stepGPost F) (k:Int) xs).2=(r:Int)∧r≤k+1048576*2097160:=row_end k 2097160 hl.1 hk (post_step F xs hl.2)
theorem mEqPosts (F:Nat)(xs:List GPost)(k:Nat)(hF:2000000<F)(hl:xs.length≤1048576∧∀d∈xs,d.At.length≤1048576)(hk:k+1048576*2097160≤9000000000000000000):M.laws_markPostS F xs (k:Int)=some (mkRow (stepGPost F) (k:Int) xs).2:=by
 have hle:=hl.1
 unfold M.laws_markPostS
 rw [run_marks k 2097160 F hl.1 hF hk (post_step F xs hl.2) (fin:=id) (fun i v x hx hi hv _=>?_) fun v=>?_]
 ·rfl
 ·have hb:=hl.2 x (List.mem_of_getElem? hx)
  have hg:getI xs (i:Int)=some x:=by rw [getI_nat',hx]
  unfold stepGPost
  dsimp only
  rw [decide_eq_true (by omega),cond_true,hg,Option.bind_some,Option.bind_some,w64_succ' (i:=v) (by omega),mEqInts F _ (v+1) hF hb (by omega),Option.bind_some,w64_succ' (i:=i) (by omega)]
 ·dsimp only
  rw [decide_eq_false (by omega)];rfl
theorem heldPosts (F:Nat)(xs:List GPost)(k:Nat)(hF:2000000<F)(hl:xs.length≤1048576∧∀d∈xs,d.At.length≤1048576)(hk:k+1048576*2097160≤9000000000000000000):M.laws_heldPostS F (mkRow (stepGPost F) (k:Int) xs).1 (k:Int)=some (mkRow (stepGPost F) (k:Int) xs).2:=by
 have hle:=hl.1
 unfold M.laws_heldPostS
 rw [mkRow_len,run_marks k 2097160 F hl.1 hF hk (post_step F xs hl.2) (fin:=Sum.inl) (fun i v x hx hi hv hg=>?_) fun v=>?_]
 ·rfl
 ·have hb:=hl.2 x (List.mem_of_getElem? hx)
  obtain⟨a,ha,_⟩:=post_stepN F x hb v hv
  rw [w64_succ' (i:=v) (by omega)] at ha
  have hst:stepGPost F (v:Int) x=(⟨(v:Int),(mkRow (stepInt F) ((v+1:Nat):Int) x.At).1⟩,(a:Int)):=by
   unfold stepGPost
   rw [w64_succ' (i:=v) (by omega),ha]
  rw [hst] at hg ⊢
  dsimp only
  rw [decide_eq_true (by omega),cond_true,getI_nat',hg,Option.bind_some,beq_self_eq_true,Bool.not_true,cond_false,Option.bind_some]
  dsimp only
  rw [w64_succ' (i:=v) (by omega),heldInts F _ (v+1) hF hb (by omega),ha,Option.bind_some,decide_eq_false (by omega),cond_false,w64_succ' (i:=i) (by omega)]
 ·dsimp only
  rw [decide_eq_false (by omega)];rfl
def PostsBig (e:GEntry):Prop:=e.Posts.length≤1048576∧∀p∈e.Posts,p.At.length≤1048576
theorem entry_stepN (B F:Nat)(hB:1048576*2097160+20≤B)(x:GEntry)(h:PostsBig x)(v:Nat)(hv:v+B≤9000000000000000000): ∃a:Nat,(mkRow (stepGPost F) (w64 (w64 ((v:Int)+1)+1)) x.Posts).2=(a:Int)∧a≤v+B:=by
 rw [w64_succ' (i:=v) (by omega),w64_succ' (i:=v+1) (by omega)]
 obtain⟨a,ha,hal⟩:=posts_end F x.Posts (v+1+1) h (by omega)
 exact⟨a,ha,by omega⟩
theorem entry_step (B F:Nat)(hB:1048576*2097160+20≤B)(xs:List GEntry)(h: ∀d∈xs,PostsBig d): ∀(v:Nat) x,x∈xs→v+B≤9000000000000000000→∃r:Nat,(stepGEntry F (v:Int) x).2=(r:Int)∧r≤v+B:=fun v x hx hv=>by
 obtain⟨a,ha,hal⟩:=entry_stepN B F hB x (h x hx) v hv
 exact⟨a,ha,hal⟩
theorem entrys_end (B F:Nat)(hB:1048576*2097160+20≤B)(xs:List GEntry)(k:Nat)(hl:xs.length≤1048576∧∀d∈xs,PostsBig d)(hk:k+1048576*B≤9000000000000000000): ∃r:Nat,(mkRow (stepGEntry F) (k:Int) xs).2=(r:Int)∧r≤k+1048576*B:=row_end k B hl.1 hk (entry_step B F hB xs hl.2)
theorem mEqEntrys (B F:Nat)(hB:1048576*2097160+20≤B)(xs:List GEntry)(k:Nat)(hF:2000000<F)(hl:xs.length≤1048576∧∀d∈xs,PostsBig d)(hk:k+1048576*B≤9000000000000000000):M.laws_markEntryS F xs (k:Int)=some (mkRow (stepGEntry F) (k:Int) xs).2:=by
 have hle:=hl.1
 unfold M.laws_markEntryS
 rw [run_marks k B F hl.1 hF hk (entry_step B F hB xs hl.2) (fin:=id) (fun i v x hx hi hv _=>?_) fun v=>?_]
 ·rfl
 ·have hb:=hl.2 x (List.mem_of_getElem? hx)
  obtain⟨s,hs⟩:=markText_ok F (v:Int) (by omega) (by omega)
  obtain⟨s',hs'⟩:=markText_ok F ((v+1:Nat):Int) (by omega) (by omega)
  have hg:getI xs (i:Int)=some x:=by rw [getI_nat',hx]
  unfold stepGEntry
  dsimp only
  rw [decide_eq_true (by omega),cond_true,hs,Option.bind_some,hg,Option.bind_some,w64_succ' (i:=v) (by omega),hs',Option.bind_some,Option.bind_some,Option.bind_some,w64_succ' (i:=v+1) (by omega),mEqPosts F _ (v+1+1) hF hb (by omega),Option.bind_some,w64_succ' (i:=i) (by omega)]
 ·dsimp only
  rw [decide_eq_false (by omega)];rfl
theorem heldEntrys (B F:Nat)(hB:1048576*2097160+20≤B)(xs:List GEntry)(k:Nat)(hF:2000000<F)(hl:xs.length≤1048576∧∀d∈xs,PostsBig d)(hk:k+1048576*B≤9000000000000000000):M.laws_heldEntryS F (mkRow (stepGEntry F) (k:Int) xs).1 (k:Int)=some (mkRow (stepGEntry F) (k:Int) xs).2:=by
 have hle:=hl.1
 unfold M.laws_heldEntryS
 rw [mkRow_len,run_marks k B F hl.1 hF hk (entry_step B F hB xs hl.2) (fin:=Sum.inl) (fun i v x hx hi hv hg=>?_) fun v=>?_]
 ·rfl
 ·have hb:=hl.2 x (List.mem_of_getElem? hx)
  obtain⟨s,hs⟩:=markText_ok F (v:Int) (by omega) (by omega)
  obtain⟨s',hs'⟩:=markText_ok F ((v+1:Nat):Int) (by omega) (by omega)
  obtain⟨a,ha,_⟩:=entry_stepN B F hB x hb v hv
  rw [w64_succ' (i:=v) (by omega),w64_succ' (i:=v+1) (by omega)] at ha
  have hst:stepGEntry F (v:Int) x=(⟨s,s',(mkRow (stepGPost F) ((v+1+1:Nat):Int) x.Posts).1⟩,(a:Int)):=by
   unfold stepGEntry
   rw [hs,w64_succ' (i:=v) (by omega),hs',w64_succ' (i:=v+1) (by omega),ha];rfl
  rw [hst] at hg ⊢
  dsimp only
  rw [decide_eq_true (by omega),cond_true,getI_nat',hg,Option.bind_some,hs,Option.bind_some,Option.bind_some]
  dsimp only
  rw [beq_self_eq_true,Bool.not_true,cond_false,w64_succ' (i:=v) (by omega),hs',Option.bind_some,beq_self_eq_true,Bool.not_true,cond_false,Option.bind_some,w64_succ' (i:=v+1) (by omega),heldPosts F _ (v+1+1) hF hb (by omega),ha,Option.bind_some,decide_eq_false (by omega),cond_false,w64_succ' (i:=i) (by omega)]
 ·dsimp only
  rw [decide_eq_false (by omega)];rfl
end Go.Fk
