/-
  The program's and the reference's automata are the plain one. Of no program.
-/
import Derived.Test.YtpjefkdclnmlfaaLawWord
import Derived.Test.YtpjefkdclnmlfaaTree
namespace Go.Fk
open Go
theorem find_from {α τ:Type}{p:α→Bool}{g:Nat→τ}{xs:List α}{f:Nat→Unit→Option (Unit⊕τ)}(h: ∀i x,xs[i]? =some x→f i ()=some (if p x then .inr (g i) else .inl ())):
  ∀k i,i+k=xs.length→forFrom f k i ()=some (match (xs.drop i).findIdx? p with | some j=>.inr (g (i+j)) | none=>.inl ())
 | 0,i,e=>by rw [List.drop_eq_nil_of_le (by omega)];rfl
 | k+1,i,e=>by
  have hi:i<xs.length:=by omega
  rw [forFrom,h i xs[i] (List.getElem?_eq_getElem hi),List.drop_eq_getElem_cons hi,List.findIdx?_cons]
  cases hp:p xs[i]
  ·simp only [Bool.false_eq_true,if_false,Option.bind_some,Sum.elim_inl]
   rw [find_from h k (i+1) (by omega)]
   cases (xs.drop (i+1)).findIdx? p with
   | none=>rfl
   | some j=>simp only [Option.map_some];rw [show i+1+j=i+(j+1) by omega]
  ·rfl
theorem find_while {α τ:Type}{p:α→Bool}{g:Nat→τ}{xs:List α}{f:Int→Option (Int⊕(Unit⊕τ))}(h: ∀(i:Nat) x,xs[i]? =some x→f (i:Int)=some (if p x then .inr (.inr (g i)) else .inl ((i+1:Nat):Int)))
  (h0:f (xs.length:Int)=some (.inr (.inl ()))): ∀k i F,i+k=xs.length→k<F→whileM f F (i:Int)=some (match (xs.drop i).findIdx? p with | some j=>.inr (g (i+j)) | none=>.inl ())
 | 0,i,F,e,hF=>by
  obtain⟨F,rfl⟩: ∃G,F=G+1:=⟨F-1,by omega⟩
  rw [whileM,show i=xs.length by omega,h0,List.drop_eq_nil_of_le (by omega)];rfl
 | k+1,i,F,e,hF=>by
  obtain⟨F,rfl⟩: ∃G,F=G+1:=⟨F-1,by omega⟩
  have hi:i<xs.length:=by omega
  rw [whileM,h i xs[i] (List.getElem?_eq_getElem hi),List.drop_eq_getElem_cons hi,List.findIdx?_cons]
  cases hp:p xs[i]
  ·simp only [Bool.false_eq_true,if_false,Option.bind_some,Sum.elim_inl]
   rw [find_while h h0 k (i+1) F (by omega) (by omega)]
   cases (xs.drop (i+1)).findIdx? p with
   | none=>rfl
   | some j=>simp only [Option.map_some];rw [show i+1+j=i+(j+1) by omega]
  ·rfl
theorem less_total: ∀a b:Str,(!strLess a b)=(strLess b a||b==a)
 | [],[]=>rfl
 | [],_::_=>rfl
 | _::_,[]=>rfl
 | a::x,b::y=>by
  have ih:=less_total x y
  simp only [strLess] at ih
  simp only [strLess,Op.bytesLess,List.cons_beq_cons]
  rcases Nat.lt_trichotomy a.toNat b.toNat with h | h | h
  ·have h1:decide (a<b)=true:=decide_eq_true (UInt8.lt_iff_toNat_lt.2 h)
   have h2:decide (b<a)=false:=decide_eq_false (fun q=>by have:=UInt8.lt_iff_toNat_lt.1 q;omega)
   have h3:(b==a)=false:=beq_eq_false_iff_ne.2 (fun q=>by subst q;omega)
   simp [h1,h2,h3]
  ·have h0:=UInt8.toNat_inj.1 h
   subst h0
   have h1:decide (a<a)=false:=decide_eq_false (fun q=>by have:=UInt8.lt_iff_toNat_lt.1 q;omega)
   simp only [h1,Bool.false_or,beq_self_eq_true,Bool.true_and]
   exact ih
  ·have h1:decide (a<b)=false:=decide_eq_false (fun q=>by have:=UInt8.lt_iff_toNat_lt.1 q;omega)
   have h2:decide (b<a)=true:=decide_eq_true (UInt8.lt_iff_toNat_lt.2 h)
   have h3:(a==b)=false:=beq_eq_false_iff_ne.2 (fun q=>by subst q;omega)
   simp [h1,h2,h3]
theorem zip_at {α:Type}{xs:List α}{i:Nat}{q:α×Nat}(h:xs.zipIdx[i]? =some q):xs[i]? =some q.1∧q.2=i:=by
 rw [List.getElem?_zipIdx] at h
 obtain⟨x,hx,rfl⟩:=Option.map_eq_some_iff.1 h
 exact⟨hx,by simp⟩
def upP (ws:List Str)(q:Str×Nat):Bool:=wordS q.1&&(decide (q.2=0)||((ws[q.2-1]?).elim true fun g=>strLess g q.1))
def upS (ws:List Str):Bool:=ws.zipIdx.all (upP ws)&&decide (ws.length≤40)
theorem impl_ascend (F:Nat)(ws:List Str)(hl:ws.length<9000000000000000000):M.impl_wordsAscend F ws=some (ws.zipIdx.all (upP ws)):=by
 unfold M.impl_wordsAscend
 have hz:ws.length=ws.zipIdx.length:=by simp
 have key:=fun f h=>all_from (p:=upP ws) (xs:=ws.zipIdx) (f:=f) h ws.length 0 (by omega)
 rw [key _ (fun i q hq=>?_),List.drop_zero]
 ·cases ws.zipIdx.all (upP ws)<;>rfl
 ·obtain⟨hx,hi⟩:=zip_at hq
  have hlt:=(List.getElem?_eq_some_iff.1 hx).1
  rw [getI_nat',hx,Option.bind_some,impl_word,Option.bind_some]
  unfold upP
  rw [hi]
  by_cases h0:i=0
  ·subst h0
   cases wordS q.1<;>rfl
  ·rw [decide_eq_true (show (0:Int)<(i:Int) by omega),cond_true,w64_pred (by omega) (by omega),getI_nat',List.getElem?_eq_getElem (show i-1<ws.length by omega),Option.bind_some,decide_eq_false h0]
   simp only [Option.elim_some,Bool.false_or]
   cases wordS q.1<;>cases strLess ws[i-1] q.1<;>rfl
theorem impl_up (F:Nat)(ws:List Str):M.impl_WordsUp F ws=some (upS ws):=by
 unfold M.impl_WordsUp upS
 by_cases h:ws.length≤40
 ·rw [decide_eq_true (show (ws.length:Int)≤40 by omega),cond_true,impl_ascend F ws (by omega),decide_eq_true h,Bool.and_true];rfl
 ·rw [decide_eq_false (show ¬(ws.length:Int)≤40 by omega),decide_eq_false h,Bool.and_false];rfl
theorem spec_up (F:Nat)(ws:List Str)(hF:ws.length<F)(hl:ws.length<9000000000000000000)(hn: ∀w∈ws,w.length<F∧w.length≤maxLen):M.spec_l4Sorted F ws=some (upS ws):=by
 unfold M.spec_l4Sorted upS
 have hz:ws.length=ws.zipIdx.length:=by simp
 have key:=fun f h h0=>all_while (p:=upP ws) (xs:=ws.zipIdx) (f:=f) h h0 ws.length 0 F (by omega) hF
 rw [show (0:Int)=((0:Nat):Int) from rfl,key _ (fun i q hq=>?_) ?_,List.drop_zero]
 ·cases ws.zipIdx.all (upP ws)
  ·rfl
  ·simp only [if_true,Option.bind_some,Sum.elim_inl,Bool.true_and]
   congr 1
   rw [decide_eq_decide];omega
 ·rw [←hz,decide_eq_false (by omega)];rfl
 ·obtain⟨hx,hi⟩:=zip_at hq
  have hlt:=(List.getElem?_eq_some_iff.1 hx).1
  obtain⟨n1,n2⟩:=hn q.1 (List.mem_of_getElem? hx)
  rw [decide_eq_true (by omega),cond_true,getI_nat',hx,Option.bind_some,spec_word F _ n1 n2,Option.bind_some,w64_succ' (by omega)]
  unfold upP
  rw [hi]
  by_cases h0:i=0
  ·subst h0
   cases wordS q.1<;>rfl
  ·rw [decide_eq_true (show ((0:Nat):Int)<(i:Int) by omega),cond_true,Option.bind_some,w64_pred (by omega) (by omega),getI_nat',List.getElem?_eq_getElem (show i-1<ws.length by omega),Option.bind_some,decide_eq_false h0]
   have ht:=less_total ws[i-1] q.1
   simp only [Option.elim_some,Bool.false_or]
   rw [←ht]
   cases wordS q.1<;>cases strLess ws[i-1] q.1<;>rfl
structure Up (ws:List Str):Prop where
 asc:Asc ws
 word: ∀w∈ws,wordS w=true
 few:ws.length≤40
theorem asc_of: ∀(ws:List Str),(∀i,(h:i+1<ws.length)→strLess ws[i] ws[i+1]=true)→Asc ws
 | [],_=>List.Pairwise.nil
 | [a],_=>by simp [Asc]
 | a::b::ws,h=>by
  have ih:=asc_of (b::ws) (fun i hi=>by have:=h (i+1) (by simp only [List.length_cons] at hi ⊢;omega);simpa using this)
  have hab:strLess a b=true:=h 0 (by simp)
  refine List.pairwise_cons.2 ⟨fun c hc=>?_,ih⟩
  rcases List.mem_cons.1 hc with rfl | hc
  ·exact hab
  ·exact sless_trans hab ((List.pairwise_cons.1 ih).1 c hc)
theorem up_iff (ws:List Str):upS ws=true↔Up ws:=by
 have hz:ws.length=ws.zipIdx.length:=by simp
 unfold upS
 rw [Bool.and_eq_true,decide_eq_true_iff,List.all_eq_true]
 constructor
 ·rintro⟨h,hl⟩
  have hat: ∀i,(hi:i<ws.length)→upP ws (ws[i],i)=true:=fun i hi=>h (ws[i],i) (by
   rw [List.mem_iff_getElem?]
   exact⟨i,by rw [List.getElem?_zipIdx,List.getElem?_eq_getElem hi];simp⟩)
  refine⟨asc_of ws fun i hi=>?_,fun w hw=>?_,hl⟩
  ·have:=hat (i+1) hi
   unfold upP at this
   rw [Bool.and_eq_true] at this
   have h2:=this.2
   rw [decide_eq_false (by omega),Nat.add_sub_cancel,List.getElem?_eq_getElem (show i<ws.length by omega)] at h2
   exact h2
  ·obtain⟨i,hi,rfl⟩:=List.mem_iff_getElem.1 hw
   have:=hat i hi
   unfold upP at this
   rw [Bool.and_eq_true] at this
   exact this.1
 ·rintro⟨ha,hw,hl⟩
  refine⟨fun q hq=>?_,hl⟩
  obtain⟨i,hi⟩:=List.mem_iff_getElem?.1 hq
  obtain⟨hx,h2⟩:=zip_at hi
  have hlt:=(List.getElem?_eq_some_iff.1 hx).1
  unfold upP
  rw [hw q.1 (List.mem_of_getElem? hx),h2,Bool.true_and]
  by_cases h0:i=0
  ·subst h0;rfl
  ·rw [List.getElem?_eq_getElem (show i-1<ws.length by omega),decide_eq_false h0,Bool.false_or]
   have:=List.pairwise_iff_getElem.1 ha (i-1) i (by omega) hlt (by omega)
   have e:ws[i]=q.1:=(List.getElem?_eq_some_iff.1 hx).2
   rw [e] at this
   exact this
theorem sameAs_zip: ∀(x y:List GArc),x.length=y.length→sameAs x y=x.zipIdx.all fun q=>(y[q.2]?).elim false fun b=>sameA q.1 b:=by
 have gen: ∀(x y:List GArc) (n:Nat) (z:List GArc),z.length=n→x.length=y.length→sameAs x y=(x.zipIdx n).all fun q=>((z++y)[q.2]?).elim false fun b=>sameA q.1 b:=by
  intro x
  induction x with
  | nil=>intro y n z _ h;cases y with
   | nil=>rfl
   | cons b y=>simp at h
  | cons a x ih=>
   intro y n z hz h
   cases y with
   | nil=>simp at h
   | cons b y=>
    rw [List.zipIdx_cons,List.all_cons,sameAs,ih y (n+1) (z++[b]) (by simp [hz]) (by simpa using h)]
    congr 1
    ·simp [hz]
    ·simp
 intro x y h
 have:=gen x y 0 [] rfl h
 simpa using this
theorem sameAs_len: ∀{x y:List GArc},x.length≠y.length→sameAs x y=false:=by
 intro x y h
 rw [Bool.eq_false_iff]
 intro e
 rw [sameAs_iff] at e
 subst e;exact h rfl
theorem impl_eqArcs (F:Nat)(x y:List GArc):M.slices_Equal_Arc F x y=some (sameAs x y):=by
 unfold M.slices_Equal_Arc
 by_cases h:x.length=y.length
 ·rw [show ((x.length:Int)==(y.length:Int))=true by rw [beq_iff_eq];omega,Bool.not_true,cond_false,sameAs_zip x y h]
  have hz:x.length=x.zipIdx.length:=by simp
  have key:=fun f h=>all_from (p:=fun q:GArc×Nat=>(y[q.2]?).elim false fun b=>sameA q.1 b) (xs:=x.zipIdx) (f:=f) h x.length 0 (by omega)
  rw [key _ (fun i q hq=>?_),List.drop_zero]
  ·cases x.zipIdx.all (fun q:GArc×Nat=>(y[q.2]?).elim false fun b=>sameA q.1 b)<;>rfl
  ·obtain⟨hx,hi⟩:=zip_at hq
   have hlt:=(List.getElem?_eq_some_iff.1 hx).1
   rw [getI_nat',hx,Option.bind_some,getI_nat',List.getElem?_eq_getElem (show i<y.length by omega),Option.bind_some,hi,List.getElem?_eq_getElem (show i<y.length by omega)]
   simp only [Option.elim_some,sameA]
   exact(show ∀b:Bool,(bif !b then (some (Sum.inr false):Option (Unit⊕Bool)) else some (Sum.inl ()))=some (if b=true then Sum.inl () else Sum.inr false) from fun b=>by cases b<;>rfl) _
 ·rw [show ((x.length:Int)==(y.length:Int))=false by rw [beq_eq_false_iff_ne];omega,sameAs_len h];rfl
theorem impl_same (F:Nat)(a b:GState):M.impl_sameState F a b=some (sameS a b):=by
 unfold M.impl_sameState sameS
 rw [impl_eqArcs]
 cases a.Final==b.Final<;>cases a.Many==b.Many<;>rfl
end Go.Fk
