/-
  Loops that keep what fits. Of no program.
-/
import Derived.Test.YtpdfkjjmcnhakaaGreatDoorLawLA
import Derived.Test.YtpdfkjjmcnhakaaGreatDoorModel
namespace Go.Fk
open Go
theorem zipAt {α:Type}{xs:List α}{i:Nat}{q:α×Nat}(h:xs.zipIdx[i]? =some q):xs[i]? =some q.1∧q.2=i:=by
 rw [List.getElem?_zipIdx] at h
 obtain⟨x,hx,rfl⟩:=Option.map_eq_some_iff.1 h
 exact⟨hx,by simp⟩
theorem lessTotal: ∀a b:Str,(!strLess a b)=(strLess b a||b==a)
 | [],[]=>rfl
 | [],_::_=>rfl
 | _::_,[]=>rfl
 | a::x,b::y=>by
  have ih:=lessTotal x y
  simp only [strLess] at ih
  simp only [strLess,Op.bytesLess,List.cons_beq_cons]
  rcases Nat.lt_trichotomy a.toNat b.toNat with h | h | h
  ·have h1:decide (a<b)=true:=decide_eq_true (UInt8.lt_iff_toNat_lt.2 h)
   have h2:decide (b<a)=false:=decide_eq_false (fun q=>by have:=UInt8.lt_iff_toNat_lt.1 q;omega)
   have h3:(b==a)=false:=beq_eq_false_iff_ne.2 (fun q=>by subst q;omega)
   simp [h1,h2,h3]
  ·have h0:=UInt8.toNat_inj.1 h
   subst h0
   have h1:decide (a<a)=false:=decide_eq_false (fun q=>by have:=UInt8.lt_iff_toNat_lt.1 q;omega)
   simp only [h1,Bool.false_or,beq_self_eq_true,Bool.true_and]
   exact ih
  ·have h1:decide (a<b)=false:=decide_eq_false (fun q=>by have:=UInt8.lt_iff_toNat_lt.1 q;omega)
   have h2:decide (b<a)=true:=decide_eq_true (UInt8.lt_iff_toNat_lt.2 h)
   have h3:(a==b)=false:=beq_eq_false_iff_ne.2 (fun q=>by subst q;omega)
   simp [h1,h2,h3]
def pairP {α:Type}(ok:α→Bool)(lt:α→α→Bool)(xs:List α)(q:α×Nat):Bool:=ok q.1&&(decide (q.2=0)||((xs[q.2-1]?).elim true fun g=>lt g q.1))
def pairS {α:Type}(ok:α→Bool)(lt:α→α→Bool)(xs:List α):Bool:=xs.zipIdx.all (pairP ok lt xs)
theorem pair_from {α:Type}{ok:α→Bool}{lt:α→α→Bool}{xs:List α}{f:Nat→Unit→Option (Unit⊕Bool)}
  (h: ∀(i:Nat) x,xs[i]? =some x→f i ()=some (if ok x&&(decide (i=0)||((xs[i-1]?).elim true fun g=>lt g x)) then .inl () else .inr false)):
  forFrom f xs.length 0 ()=some (if pairS ok lt xs then .inl () else .inr false):=by
 have hz:xs.length=xs.zipIdx.length:=by simp
 rw [all_from (p:=pairP ok lt xs) (xs:=xs.zipIdx) (fun i q hq=>?_) xs.length 0 (by omega),List.drop_zero]
 ·rfl
 ·obtain⟨hx,hi⟩:=zipAt hq
  rw [h i q.1 hx,pairP,hi]
theorem pair_while {α:Type}{ok:α→Bool}{lt:α→α→Bool}{xs:List α}{f:Int→Option (Int⊕(Unit⊕Bool))}
  (h: ∀(i:Nat) x,xs[i]? =some x→f (i:Int)=some (if ok x&&(decide (i=0)||((xs[i-1]?).elim true fun g=>lt g x)) then .inl ((i+1:Nat):Int) else .inr (.inr false)))
  (h0:f (xs.length:Int)=some (.inr (.inl ())))(F:Nat)(hF:xs.length<F):
  whileM f F (0:Int)=some (if pairS ok lt xs then .inl () else .inr false):=by
 have hz:xs.length=xs.zipIdx.length:=by simp
 have:=all_while (p:=pairP ok lt xs) (xs:=xs.zipIdx) (f:=f) (fun i q hq=>?_) (by rw [←hz];exact h0) xs.length 0 F (by omega) hF
 ·rw [List.drop_zero] at this
  exact this
 ·obtain⟨hx,hi⟩:=zipAt hq
  rw [h i q.1 hx,pairP,hi]
theorem pairS_ok {α:Type}{ok:α→Bool}{lt:α→α→Bool}{xs:List α}(h:pairS ok lt xs=true):(∀x∈xs,ok x=true)∧∀i,(hi:i+1<xs.length)→lt xs[i] xs[i+1]=true:=by
 unfold pairS at h
 rw [List.all_eq_true] at h
 have hat: ∀i,(hi:i<xs.length)→pairP ok lt xs (xs[i],i)=true:=fun i hi=>h (xs[i],i) (by
  rw [List.mem_iff_getElem?]
  exact⟨i,by rw [List.getElem?_zipIdx,List.getElem?_eq_getElem hi];simp⟩)
 refine⟨fun x hx=>?_,fun i hi=>?_⟩
 ·obtain⟨i,hi,rfl⟩:=List.mem_iff_getElem.1 hx
  have:=hat i hi
  unfold pairP at this
  rw [Bool.and_eq_true] at this
  exact this.1
 ·have:=hat (i+1) hi
  unfold pairP at this
  rw [Bool.and_eq_true] at this
  have h2:=this.2
  rw [decide_eq_false (by omega),Nat.add_sub_cancel,List.getElem?_eq_getElem (show i<xs.length by omega)] at h2
  exact h2
theorem withinS (F:Nat)(n a b:Int):M.impl_within F n a b=some (decide (a≤n)&&decide (n≤b)):=by
 unfold M.impl_within
 cases decide (a≤n)<;>rfl
theorem inS (F:Nat)(n a b:Int):M.spec_l1In F n a b=some (decide (a≤n)&&decide (n≤b)):=by
 unfold M.spec_l1In
 cases decide (a≤n)<;>rfl
theorem catLok {α:Type}{n:Nat}{xs ys:List α}(h:(xs.length+ys.length)*n≤140737488355328):catL n xs ys=some (xs++ys):=by rw [catL,if_pos h]
end Go.Fk
