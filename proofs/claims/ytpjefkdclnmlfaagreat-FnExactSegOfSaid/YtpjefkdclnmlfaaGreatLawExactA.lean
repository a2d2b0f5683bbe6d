/-
  Copies and sameness of configurations and segments; the reference's test for all of them. Of no program.
-/
import Derived.Test.YtpjefkdclnmlfaaGreatLawSz
set_option linter.unusedVariables false
namespace Go.Fk
open Go
theorem to_loop {α:Type}{xs:List α}{f:Int×List α→Option ((Int×List α)⊕List α)}(h: ∀(i:Nat) x (s:List α),xs[i]? =some x→i<s.length→f ((i:Int),s)=some (.inl (((i+1:Nat):Int),s.set i x)))
  (hE: ∀s,f ((xs.length:Int),s)=some (.inr s)): ∀(k i F:Nat) (s:List α),i+k=xs.length→k<F→s.length=xs.length→s.take i=xs.take i→whileM f F ((i:Int),s)=some xs
 | 0,i,F,s,e,hF,hl,hs=>by
  obtain⟨F,rfl⟩: ∃G,F=G+1:=⟨F-1,by omega⟩
  obtain rfl:i=xs.length:=by omega
  rw [whileM,hE]
  rw [List.take_of_length_le (by omega),List.take_of_length_le (Nat.le_refl _)] at hs
  rw [hs];rfl
 | k+1,i,F,s,e,hF,hl,hs=>by
  obtain⟨F,rfl⟩: ∃G,F=G+1:=⟨F-1,by omega⟩
  have hi:i<xs.length:=by omega
  rw [whileM,h i xs[i] s (List.getElem?_eq_getElem hi) (by omega),Option.bind_some]
  refine to_loop h hE k (i+1) F _ (by omega) (by omega) (by rw [List.length_set];exact hl) ?_
  rw [List.take_add_one,List.take_add_one,List.getElem?_set_self (by omega),List.getElem?_eq_getElem hi,List.take_set_of_le (Nat.le_refl _),hs]
theorem to_gen {α:Type}{xs:List α}{z:α}{b:Nat}{f:Int×List α→Option ((Int×List α)⊕List α)}(F:Nat)(hb:b≤100)(hF:1048577<F)(hl:xs.length≤1048576)(h: ∀(i:Nat) x (s:List α),xs[i]? =some x→i<s.length→f ((i:Int),s)=some (.inl (((i+1:Nat):Int),s.set i x)))
  (hE: ∀s,f ((xs.length:Int),s)=some (.inr s)):(Option.bind (makeL b (xs.length:Int) z) fun x5=>(Option.bind ((Option.bind (whileM f F ((0:Int),x5)) fun r27=>(some r27)):Option (List α)) fun o16=>(some o16)))=some xs:=by
 have hm:makeL b (xs.length:Int) z=some (List.replicate xs.length z):=by
  unfold makeL
  rw [if_pos ⟨by omega,by
   have h1:=Nat.mul_le_mul hl hb
   have h2:((xs.length*b:Nat):Int)≤((1048576*100:Nat):Int):=Int.ofNat_le.2 h1
   rw [Int.natCast_mul] at h2
   omega⟩,Int.toNat_natCast]
 rw [hm,Option.bind_some,show (0:Int)=((0:Nat):Int) from rfl,to_loop h hE xs.length 0 F _ (by omega) (by omega) (by simp) (by simp)];rfl
theorem toStrs (F:Nat)(xs:List Str)(hF:2000000<F)(hl:xs.length≤1048576):M.laws_toStringS F xs=some xs:=by
 unfold M.laws_toStringS
 refine to_gen F (by omega) (by omega) hl (fun i x s hx hi=>?_) fun s=>?_
 ·have hix:=(List.getElem?_eq_some_iff.1 hx).1
  have hle:=hl
  rw [decide_eq_true (by omega),cond_true,getI_nat',hx,Option.bind_some,getI_nat',List.getElem?_eq_getElem hi,Option.bind_some,w64_succ' (by omega),Int.toNat_natCast]
 ·rw [decide_eq_false (by omega)];rfl
theorem toSyn (F:Nat)(x:GSyn)(hF:2000000<F)(h:SynBig x):M.laws_toSyn F x=some x:=by
 unfold M.laws_toSyn
 rw [toStrs F x.From hF h.1.1];rfl
theorem toSyns (F:Nat)(xs:List GSyn)(hF:2000000<F)(hl:xs.length≤1048576∧∀s∈xs,SynBig s):M.laws_toSynS F xs=some xs:=by
 unfold M.laws_toSynS
 refine to_gen F (by omega) (by omega) hl.1 (fun i x s hx hi=>?_) fun s=>?_
 ·have hix:=(List.getElem?_eq_some_iff.1 hx).1
  have hle:=hl.1
  rw [decide_eq_true (by omega),cond_true,getI_nat',hx,Option.bind_some,toSyn F x hF (hl.2 x (List.mem_of_getElem? hx)),Option.bind_some,getI_nat',List.getElem?_eq_getElem hi,Option.bind_some,w64_succ' (by omega),Int.toNat_natCast]
 ·rw [decide_eq_false (by omega)];rfl
theorem toConf (F:Nat)(x:GConf)(hF:2000000<F)(h:ConfBig x):M.laws_toConf F x=some x:=by
 unfold M.laws_toConf
 rw [toStrs F x.Stops hF h.1.1,Option.bind_some,toSyns F x.Syns hF h.2];rfl
theorem toFields (F:Nat)(xs:List GField)(hF:2000000<F)(hl:xs.length≤1048576):M.laws_toFieldS F xs=some xs:=by
 unfold M.laws_toFieldS
 refine to_gen F (by omega) (by omega) hl (fun i x s hx hi=>?_) fun s=>?_
 ·have hix:=(List.getElem?_eq_some_iff.1 hx).1
  have hle:=hl
  rw [decide_eq_true (by omega),cond_true,getI_nat',hx,Option.bind_some,M.laws_toField,Option.bind_some,getI_nat',List.getElem?_eq_getElem hi,Option.bind_some,w64_succ' (by omega),Int.toNat_natCast]
 ·rw [decide_eq_false (by omega)];rfl
theorem toAttrs (F:Nat)(xs:List GAttr)(hF:2000000<F)(hl:xs.length≤1048576):M.laws_toAttrS F xs=some xs:=by
 unfold M.laws_toAttrS
 refine to_gen F (by omega) (by omega) hl (fun i x s hx hi=>?_) fun s=>?_
 ·have hix:=(List.getElem?_eq_some_iff.1 hx).1
  have hle:=hl
  rw [decide_eq_true (by omega),cond_true,getI_nat',hx,Option.bind_some,M.laws_toAttr,Option.bind_some,getI_nat',List.getElem?_eq_getElem hi,Option.bind_some,w64_succ' (by omega),Int.toNat_natCast]
 ·rw [decide_eq_false (by omega)];rfl
theorem toDoc (F:Nat)(x:GDoc)(hF:2000000<F)(h:DocBig 1048576 x):M.laws_toDoc F x=some x:=by
 unfold M.laws_toDoc
 rw [toFields F x.Fields hF h.fields,Option.bind_some,toAttrs F x.Nums hF h.nums];rfl
theorem toDocs (F:Nat)(xs:List GDoc)(hF:2000000<F)(hl:xs.length≤1048576∧∀s∈xs,DocBig 1048576 s):M.laws_toDocS F xs=some xs:=by
 unfold M.laws_toDocS
 refine to_gen F (by omega) (by omega) hl.1 (fun i x s hx hi=>?_) fun s=>?_
 ·have hix:=(List.getElem?_eq_some_iff.1 hx).1
  have hle:=hl.1
  rw [decide_eq_true (by omega),cond_true,getI_nat',hx,Option.bind_some,toDoc F x hF (hl.2 x (List.mem_of_getElem? hx)),Option.bind_some,getI_nat',List.getElem?_eq_getElem hi,Option.bind_some,w64_succ' (by omega),Int.toNat_natCast]
 ·rw [decide_eq_false (by omega)];rfl
theorem eqStrs (F:Nat)(xs:List Str)(hF:2000000<F)(hl:xs.length≤1048576):M.laws_eqStringS F xs xs=some true:=by
 have hle:=hl
 unfold M.laws_eqStringS
 rw [beq_self_eq_true,Bool.not_true,cond_false,clean0' (n:=xs.length) F (by omega) (fun i hi=>?_) ?_]
 ·rfl
 ·rw [decide_eq_false (by omega)];rfl
 ·rw [decide_eq_true (by omega),cond_true,getI_at hi,Option.bind_some,Option.bind_some,beq_self_eq_true,w64_succ' (by omega)]
  rfl
theorem eqSyn (F:Nat)(x:GSyn)(hF:2000000<F)(h:SynBig x):M.laws_eqSyn F x x=some true:=by
 unfold M.laws_eqSyn
 rw [eqStrs F x.From hF h.1.1,Option.bind_some,beq_self_eq_true];rfl
theorem eqSyns (F:Nat)(xs:List GSyn)(hF:2000000<F)(hl:xs.length≤1048576∧∀s∈xs,SynBig s):M.laws_eqSynS F xs xs=some true:=by
 have hle:=hl.1
 unfold M.laws_eqSynS
 rw [beq_self_eq_true,Bool.not_true,cond_false,clean0' (n:=xs.length) F (by omega) (fun i hi=>?_) ?_]
 ·rfl
 ·rw [decide_eq_false (by omega)];rfl
 ·rw [decide_eq_true (by omega),cond_true,getI_at hi,Option.bind_some,Option.bind_some,eqSyn F _ hF (hl.2 _ (List.getElem_mem hi)),Option.bind_some,w64_succ' (by omega)]
  rfl
theorem eqConf (F:Nat)(x:GConf)(hF:2000000<F)(h:ConfBig x):M.laws_eqConf F x x=some true:=by
 unfold M.laws_eqConf
 rw [eqStrs F x.Stops hF h.1.1,Option.bind_some,eqSyns F x.Syns hF h.2];rfl
theorem eqField (F:Nat)(x:GField):M.laws_eqField F x x=some true:=by
 unfold M.laws_eqField
 rw [beq_self_eq_true,beq_self_eq_true];rfl
theorem eqAttr (F:Nat)(x:GAttr):M.laws_eqAttr F x x=some true:=by
 unfold M.laws_eqAttr
 rw [beq_self_eq_true,beq_self_eq_true];rfl
theorem eqFields (F:Nat)(xs:List GField)(hF:2000000<F)(hl:xs.length≤1048576):M.laws_eqFieldS F xs xs=some true:=by
 have hle:=hl
 unfold M.laws_eqFieldS
 rw [beq_self_eq_true,Bool.not_true,cond_false,clean0' (n:=xs.length) F (by omega) (fun i hi=>?_) ?_]
 ·rfl
 ·rw [decide_eq_false (by omega)];rfl
 ·rw [decide_eq_true (by omega),cond_true,getI_at hi,Option.bind_some,Option.bind_some,eqField,Option.bind_some,w64_succ' (by omega)]
  rfl
theorem eqAttrs (F:Nat)(xs:List GAttr)(hF:2000000<F)(hl:xs.length≤1048576):M.laws_eqAttrS F xs xs=some true:=by
 have hle:=hl
 unfold M.laws_eqAttrS
 rw [beq_self_eq_true,Bool.not_true,cond_false,clean0' (n:=xs.length) F (by omega) (fun i hi=>?_) ?_]
 ·rfl
 ·rw [decide_eq_false (by omega)];rfl
 ·rw [decide_eq_true (by omega),cond_true,getI_at hi,Option.bind_some,Option.bind_some,eqAttr,Option.bind_some,w64_succ' (by omega)]
  rfl
theorem eqDoc (F:Nat)(x:GDoc)(hF:2000000<F)(h:DocBig 1048576 x):M.laws_eqDoc F x x=some true:=by
 unfold M.laws_eqDoc
 rw [beq_self_eq_true,eqFields F x.Fields hF h.fields,Option.bind_some,eqAttrs F x.Nums hF h.nums];rfl
theorem eqDocs (F:Nat)(xs:List GDoc)(hF:2000000<F)(hl:xs.length≤1048576∧∀s∈xs,DocBig 1048576 s):M.laws_eqDocS F xs xs=some true:=by
 have hle:=hl.1
 unfold M.laws_eqDocS
 rw [beq_self_eq_true,Bool.not_true,cond_false,clean0' (n:=xs.length) F (by omega) (fun i hi=>?_) ?_]
 ·rfl
 ·rw [decide_eq_false (by omega)];rfl
 ·rw [decide_eq_true (by omega),cond_true,getI_at hi,Option.bind_some,Option.bind_some,eqDoc F _ hF (hl.2 _ (List.getElem_mem hi)),Option.bind_some,w64_succ' (by omega)]
  rfl
theorem eqInts (F:Nat)(xs:List Int)(hF:2000000<F)(hl:xs.length≤1048576):M.laws_eqIntS F xs xs=some true:=by
 have hle:=hl
 unfold M.laws_eqIntS
 rw [beq_self_eq_true,Bool.not_true,cond_false,clean0' (n:=xs.length) F (by omega) (fun i hi=>?_) ?_]
 ·rfl
 ·rw [decide_eq_false (by omega)];rfl
 ·rw [decide_eq_true (by omega),cond_true,getI_at hi,Option.bind_some,Option.bind_some,beq_self_eq_true,w64_succ' (by omega)]
  rfl
theorem eqPost (F:Nat)(x:GPost)(hF:2000000<F)(h:x.At.length≤1048576):M.laws_eqPost F x x=some true:=by
 unfold M.laws_eqPost
 rw [beq_self_eq_true,eqInts F x.At hF h];rfl
theorem eqPosts (F:Nat)(xs:List GPost)(hF:2000000<F)(hl:xs.length≤1048576∧∀s∈xs,s.At.length≤1048576):M.laws_eqPostS F xs xs=some true:=by
 have hle:=hl.1
 unfold M.laws_eqPostS
 rw [beq_self_eq_true,Bool.not_true,cond_false,clean0' (n:=xs.length) F (by omega) (fun i hi=>?_) ?_]
 ·rfl
 ·rw [decide_eq_false (by omega)];rfl
 ·rw [decide_eq_true (by omega),cond_true,getI_at hi,Option.bind_some,Option.bind_some,eqPost F _ hF (hl.2 _ (List.getElem_mem hi)),Option.bind_some,w64_succ' (by omega)]
  rfl
theorem ConfBig.fit {c:GConf}(h:ConfBig c):ConfFit 1048576 c:=⟨h.1,h.2.1,fun r hr=>⟨(h.2.2 r hr).1.1,(h.2.2 r hr).2,(h.2.2 r hr).1.2⟩⟩
end Go.Fk
