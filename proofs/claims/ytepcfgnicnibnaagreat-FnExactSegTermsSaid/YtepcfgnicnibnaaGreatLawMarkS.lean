/-
  Marks of configurations and segments: how far the count runs. Of no program.
-/
import Derived.Test.YtepcfgnicnibnaaGreatLawMark
import Derived.Test.YtepcfgnicnibnaaGreatLawSz
set_option linter.unusedVariables false
namespace Go.Fk
open Go
theorem mk_loop {α:Type}{xs:List α}{f:Int×Int→Option ((Int×Int)⊕Int)}(B F:Nat)(hl:xs.length≤1048576)(hF:2000000<F)(k:Nat)(hk:k+1048576*B≤9000000000000000000)
  (h: ∀(i v:Nat) x,xs[i]? =some x→i<xs.length→v+B≤9000000000000000000→∃r:Nat,f ((v:Int),(i:Int))=some (.inl ((r:Int),((i+1:Nat):Int)))∧r≤v+B)
  (h0: ∀v:Nat,f ((v:Int),(xs.length:Int))=some (.inr (v:Int))): ∃r:Nat,(Option.bind (Option.bind (whileM f F ((k:Int),(0:Int))) fun r15=>some r15) fun o6=>some o6)=some (r:Int)∧r≤k+1048576*B:=by
 have gen: ∀(j i v F:Nat),i+j=xs.length→j<F→v+j*B≤9000000000000000000→∃r:Nat,whileM f F ((v:Int),(i:Int))=some (r:Int)∧r≤v+j*B:=by
  intro j
  induction j with
  | zero=>
   intro i v F e hF hv
   obtain⟨F,rfl⟩: ∃G,F=G+1:=⟨F-1,by omega⟩
   obtain rfl:i=xs.length:=by omega
   exact⟨v,by rw [whileM,h0];rfl,by omega⟩
  | succ j ih=>
   intro i v F e hF hv
   obtain⟨F,rfl⟩: ∃G,F=G+1:=⟨F-1,by omega⟩
   rw [Nat.add_mul,Nat.one_mul] at hv
   generalize hc:j*B=c at hv ih
   have hi:i<xs.length:=by omega
   obtain⟨r,hr,hle⟩:=h i v xs[i] (List.getElem?_eq_getElem hi) hi (by omega)
   obtain⟨q,hq,hql⟩:=ih (i+1) r F (by omega) (by omega) (by omega)
   refine⟨q,?_,?_⟩
   ·rw [whileM,hr];exact hq
   ·rw [Nat.add_mul,Nat.one_mul,hc];omega
 have hm:=Nat.mul_le_mul_right B hl
 obtain⟨r,hr,hle⟩:=gen xs.length 0 k F (by omega) (by omega) (by omega)
 refine⟨r,?_,by omega⟩
 rw [show (0:Int)=((0:Nat):Int) from rfl,hr];rfl
theorem mkTexts (F:Nat)(xs:List Str)(k:Nat)(hF:2000000<F)(hl:xs.length≤1048576)(hk:k+1048576≤9000000000000000000): ∃r:Nat,M.laws_markStringS F xs (k:Int)=some (r:Int)∧r≤k+1048576:=
 ⟨k+xs.length,by rw [markTexts F xs k (by omega) hF hl,kapStr_nat k (by omega) _ (by omega)],by omega⟩
theorem mkSyns (F:Nat)(xs:List GSyn)(k:Nat)(hF:2000000<F)(hl:xs.length≤1048576∧∀s∈xs,SynBig s)(hk:k+1048576*1048577≤9000000000000000000): ∃r:Nat,M.laws_markSynS F xs (k:Int)=some (r:Int)∧r≤k+1048576*1048577:=by
 obtain⟨hl,ha⟩:=hl
 unfold M.laws_markSynS
 refine mk_loop 1048577 F hl hF k hk (fun i v x hx hi hv=>?_) fun v=>?_
 ·have hb:=ha x (List.mem_of_getElem? hx)
  obtain⟨r,hr,hle⟩:=mkTexts F x.From v hF hb.1.1 (by omega)
  obtain⟨s,hs⟩:=markText_ok F (r:Int) (by omega) (by omega)
  refine⟨r+1,?_,by omega⟩
  have hg:getI xs (i:Int)=some x:=by rw [getI_nat',hx]
  dsimp only
  rw [decide_eq_true (by omega),cond_true,hg,Option.bind_some,hr,Option.bind_some,hs,Option.bind_some,Option.bind_some,w64_succ' (i:=r) (by omega),w64_succ' (i:=i) (by omega)]
 ·dsimp only
  rw [decide_eq_false (by omega)];rfl
theorem mkConf (F:Nat)(c:GConf)(k:Nat)(hF:2000000<F)(h:ConfBig c)(hk:k+1048576*1048578≤9000000000000000000): ∃r:Nat,M.laws_markConf F c (k:Int)=some (r:Int)∧r≤k+1048576*1048578:=by
 unfold M.laws_markConf
 obtain⟨r,hr,hle⟩:=mkTexts F c.Stops k hF h.1.1 (by omega)
 obtain⟨q,hq,hqe⟩:=mkSyns F c.Syns r hF h.2 (by omega)
 exact⟨q,by rw [hr,Option.bind_some,hq];rfl,by omega⟩
theorem mkFields (F:Nat)(xs:List GField)(k:Nat)(hF:2000000<F)(hl:xs.length≤1048576)(hk:k+1048576*2≤9000000000000000000): ∃r:Nat,M.laws_markFieldS F xs (k:Int)=some (r:Int)∧r≤k+1048576*2:=by
 unfold M.laws_markFieldS
 refine mk_loop 2 F hl hF k hk (fun i v x hx hi hv=>?_) fun v=>?_
 ·obtain⟨s,hs⟩:=markText_ok F (v:Int) (by omega) (by omega)
  obtain⟨s',hs'⟩:=markText_ok F ((v+1:Nat):Int) (by omega) (by omega)
  refine⟨v+1+1,?_,by omega⟩
  have hg:getI xs (i:Int)=some x:=by rw [getI_nat',hx]
  dsimp only
  rw [decide_eq_true (by omega),cond_true,hs,Option.bind_some,hg,Option.bind_some,w64_succ' (i:=v) (by omega),hs',Option.bind_some,Option.bind_some,w64_succ' (i:=v+1) (by omega),w64_succ' (i:=i) (by omega)]
 ·dsimp only
  rw [decide_eq_false (by omega)];rfl
theorem mkAttrs (F:Nat)(xs:List GAttr)(k:Nat)(hF:2000000<F)(hl:xs.length≤1048576)(hk:k+1048576*2≤9000000000000000000): ∃r:Nat,M.laws_markAttrS F xs (k:Int)=some (r:Int)∧r≤k+1048576*2:=by
 unfold M.laws_markAttrS
 refine mk_loop 2 F hl hF k hk (fun i v x hx hi hv=>?_) fun v=>?_
 ·obtain⟨s,hs⟩:=markText_ok F (v:Int) (by omega) (by omega)
  refine⟨v+1+1,?_,by omega⟩
  have hg:getI xs (i:Int)=some x:=by rw [getI_nat',hx]
  dsimp only
  rw [decide_eq_true (by omega),cond_true,hs,Option.bind_some,hg,Option.bind_some,Option.bind_some,w64_succ' (i:=v) (by omega),w64_succ' (i:=v+1) (by omega),w64_succ' (i:=i) (by omega)]
 ·dsimp only
  rw [decide_eq_false (by omega)];rfl
theorem mkDocs (F:Nat)(xs:List GDoc)(k:Nat)(hF:2000000<F)(hl:xs.length≤1048576∧∀s∈xs,DocBig 1048576 s)(hk:k+1048576*4194305≤9000000000000000000): ∃r:Nat,M.laws_markDocS F xs (k:Int)=some (r:Int)∧r≤k+1048576*4194305:=by
 obtain⟨hl,ha⟩:=hl
 unfold M.laws_markDocS
 refine mk_loop 4194305 F hl hF k hk (fun i v x hx hi hv=>?_) fun v=>?_
 ·have hb:=ha x (List.mem_of_getElem? hx)
  obtain⟨r,hr,hle⟩:=mkFields F x.Fields (v+1) hF hb.fields (by omega)
  obtain⟨q,hq,hqe⟩:=mkAttrs F x.Nums r hF hb.nums (by omega)
  refine⟨q,?_,by omega⟩
  have hg:getI xs (i:Int)=some x:=by rw [getI_nat',hx]
  dsimp only
  rw [decide_eq_true (by omega),cond_true,hg,Option.bind_some,Option.bind_some,w64_succ' (i:=v) (by omega),hr,Option.bind_some,Option.bind_some,hq,Option.bind_some,w64_succ' (i:=i) (by omega)]
 ·dsimp only
  rw [decide_eq_false (by omega)];rfl
theorem mkInts (F:Nat)(xs:List Int)(k:Nat)(hF:2000000<F)(hl:xs.length≤1048576)(hk:k+1048576*2≤9000000000000000000): ∃r:Nat,M.laws_markIntS F xs (k:Int)=some (r:Int)∧r≤k+1048576*2:=by
 unfold M.laws_markIntS
 refine mk_loop 2 F hl hF k hk (fun i v x hx hi hv=>?_) fun v=>?_
 ·refine⟨v+1,?_,by omega⟩
  have hg:getI xs (i:Int)=some x:=by rw [getI_nat',hx]
  dsimp only
  rw [decide_eq_true (by omega),cond_true,hg,Option.bind_some,w64_succ' (i:=v) (by omega),w64_succ' (i:=i) (by omega)]
 ·dsimp only
  rw [decide_eq_false (by omega)];rfl
theorem mkPosts (F:Nat)(xs:List GPost)(k:Nat)(hF:2000000<F)(hl:xs.length≤1048576∧∀s∈xs,s.At.length≤1048576)(hk:k+1048576*2097160≤9000000000000000000): ∃r:Nat,M.laws_markPostS F xs (k:Int)=some (r:Int)∧r≤k+1048576*2097160:=by
 obtain⟨hl,ha⟩:=hl
 unfold M.laws_markPostS
 refine mk_loop 2097160 F hl hF k hk (fun i v x hx hi hv=>?_) fun v=>?_
 ·obtain⟨r,hr,hle⟩:=mkInts F x.At (v+1) hF (ha x (List.mem_of_getElem? hx)) (by omega)
  refine⟨r,?_,by omega⟩
  have hg:getI xs (i:Int)=some x:=by rw [getI_nat',hx]
  dsimp only
  rw [decide_eq_true (by omega),cond_true,hg,Option.bind_some,Option.bind_some,w64_succ' (i:=v) (by omega),hr,Option.bind_some,w64_succ' (i:=i) (by omega)]
 ·dsimp only
  rw [decide_eq_false (by omega)];rfl
theorem mkEntrys (B F:Nat)(hB:1048576*2097160+20≤B)(xs:List GEntry)(k:Nat)(hF:2000000<F)(hl:xs.length≤1048576∧∀s∈xs,EntryBig s)(hk:k+1048576*B≤9000000000000000000): ∃r:Nat,M.laws_markEntryS F xs (k:Int)=some (r:Int)∧r≤k+1048576*B:=by
 obtain⟨hl,ha⟩:=hl
 unfold M.laws_markEntryS
 refine mk_loop B F hl hF k hk (fun i v x hx hi hv=>?_) fun v=>?_
 ·have hb:=ha x (List.mem_of_getElem? hx)
  obtain⟨s,hs⟩:=markText_ok F (v:Int) (by omega) (by omega)
  obtain⟨s',hs'⟩:=markText_ok F ((v+1:Nat):Int) (by omega) (by omega)
  obtain⟨r,hr,hle⟩:=mkPosts F x.Posts (v+1+1) hF hb.2.2 (by omega)
  refine⟨r,?_,by omega⟩
  have hg:getI xs (i:Int)=some x:=by rw [getI_nat',hx]
  dsimp only
  rw [decide_eq_true (by omega),cond_true,hs,Option.bind_some,hg,Option.bind_some,w64_succ' (i:=v) (by omega),hs',Option.bind_some,Option.bind_some,Option.bind_some,w64_succ' (i:=v+1) (by omega),hr,Option.bind_some,w64_succ' (i:=i) (by omega)]
 ·dsimp only
  rw [decide_eq_false (by omega)];rfl
theorem mkSeg (F:Nat)(s:GSeg)(k:Nat)(hF:2000000<F)(h:SegBig s)(hk:k≤2000000000000000000): ∃r:Nat,M.laws_markSeg F s (k:Int)=some (r:Int)∧r≤k+4000000000000000000:=by
 unfold M.laws_markSeg
 obtain⟨r,hr,hle⟩:=mkDocs F s.Docs k hF h.1 (by omega)
 obtain⟨B,hB,hB'⟩: ∃B:Nat,1048576*2097160+20≤B∧B≤3300000000000:=⟨1048576*2097160+20,Nat.le_refl _,by omega⟩
 obtain⟨q,hq,hqe⟩:=mkEntrys B F hB s.Entries r hF h.2 (by omega)
 exact⟨q,by rw [hr,Option.bind_some,hq];rfl,by omega⟩
end Go.Fk
