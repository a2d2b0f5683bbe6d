import Derived.Test.YtpdfkjjmcnhakaaGreatDoorCoreJL
import Derived.Test.YtpdfkjjmcnhakaaGreatDoorModel
/-
  How the models' loops run: a step's law gives the loop's law. Of no program.
-/
namespace Go.Fk
open Go
theorem G3 {σ τ:Type}{f:σ→Option (σ⊕τ)}{Post:τ→Prop}(Inv:Nat→σ→Prop)(n:Nat)
  (step: ∀i s,i<n→Inv i s→(∃s',f s=some (.inl s')∧Inv (i+1) s')∨(∃t,f s=some (.inr t)∧Post t))
  (fin: ∀s,Inv n s→∃t,f s=some (.inr t)∧Post t): ∀(k i:Nat) (s:σ) (F:Nat),i+k=n→k<F→Inv i s→∃t,u0 f F s=some t∧Post t
 | 0,i,s,F,e,hF,hi=>by
  obtain⟨F,rfl⟩: ∃G,F=G+1:=⟨F-1,by omega⟩
  obtain⟨t,h1,h2⟩:=fin s (by rw [←e];exact hi)
  exact⟨t,by rw [u0,h1];rfl,h2⟩
 | k+1,i,s,F,e,hF,hi=>by
  obtain⟨F,rfl⟩: ∃G,F=G+1:=⟨F-1,by omega⟩
  rcases step i s (by omega) hi with ⟨s',h1,h2⟩ | ⟨t,h1,h2⟩
  ·obtain⟨t,h3,h4⟩:=G3 Inv n step fin k (i+1) s' F (by omega) (by omega) h2
   exact⟨t,by rw [u0,h1];exact h3,h4⟩
  ·exact⟨t,by rw [u0,h1];rfl,h2⟩
theorem a03 {α:Type}{xs:List α}{i:Nat}(h:i<xs.length):p8 xs (i:Int)=some xs[i]:=by
 unfold p8
 rw [if_pos (by omega)]
 exact i6 (by omega)
theorem b00 {i:Nat}(h:i<9000000000000000000):y8 (i:Int)=i:=B9 ⟨by omega,by omega⟩
theorem Z7 {i:Nat}(h0:0<i)(h:i<9000000000000000000):y8 ((i:Int)-1)=((i-1:Nat):Int):=by rw [B9 ⟨by omega,by omega⟩];omega
end Go.Fk
namespace Go.Fk
open Go
theorem l8 {α:Type}(xs:List α)(i:Nat):p8 xs (i:Int)=xs[i]? :=by simp [p8]
theorem u4 {i:Nat}(h:i<9223372036854775807):y8 ((i:Int)+1)=((i+1:Nat):Int):=by rw [B9 ⟨by omega,by omega⟩];rfl
theorem Q4 {α:Type}{p:α→Bool}{xs:List α}{f:Nat→Unit→Option (Unit⊕Bool)}(h: ∀i x,xs[i]? =some x→f i ()=some (if p x then .inl () else .inr false)):
  ∀k i,i+k=xs.length→y6 f k i ()=some (if (xs.drop i).all p then .inl () else .inr false)
 | 0,i,e=>by rw [List.drop_eq_nil_of_le (by omega)];rfl
 | k+1,i,e=>by
  have hi:i<xs.length:=by omega
  rw [y6,h i xs[i] (i6 hi),List.drop_eq_getElem_cons hi,List.all_cons]
  cases hp:p xs[i]
  ·rfl
  ·simp only [n8]
   exact Q4 h k (i+1) (by omega)
theorem a2Y {α:Type}{p:α→Bool}{xs:List α}{f:Int→Option (Int⊕(Unit⊕Bool))}(h: ∀(i:Nat) x,xs[i]? =some x→f (i:Int)=some (if p x then .inl ((i+1:Nat):Int) else .inr (.inr false)))
  (h0:f (xs.length:Int)=some (.inr (.inl ()))): ∀k i F,i+k=xs.length→k<F→u0 f F (i:Int)=some (if (xs.drop i).all p then .inl () else .inr false)
 | 0,i,F,e,hF=>by
  obtain⟨F,rfl⟩: ∃G,F=G+1:=⟨F-1,by omega⟩
  rw [u0,show i=xs.length by omega,h0,List.drop_eq_nil_of_le (by omega)];rfl
 | k+1,i,F,e,hF=>by
  obtain⟨F,rfl⟩: ∃G,F=G+1:=⟨F-1,by omega⟩
  have hi:i<xs.length:=by omega
  rw [u0,h i xs[i] (i6 hi),List.drop_eq_getElem_cons hi,List.all_cons]
  cases hp:p xs[i]
  ·rfl
  ·simp only [n8]
   exact a2Y h h0 k (i+1) F (by omega) (by omega)
theorem a4I {α τ:Type}{p:α→Bool}{e:τ}{xs:List α}{f:Nat→Unit→Option (Unit⊕τ)}(h: ∀i x,xs[i]? =some x→f i ()=some (if p x then .inl () else .inr e)):
  ∀k i,i+k=xs.length→y6 f k i ()=some (if (xs.drop i).all p then .inl () else .inr e)
 | 0,i,q=>by rw [List.drop_eq_nil_of_le (by omega)];rfl
 | k+1,i,q=>by
  have hi:i<xs.length:=by omega
  rw [y6,h i xs[i] (i6 hi),List.drop_eq_getElem_cons hi,List.all_cons]
  cases hp:p xs[i]
  ·rfl
  ·simp only [n8]
   exact a4I h k (i+1) (by omega)
end Go.Fk
namespace Go.Fk
open Go
def Z8 (b:UInt8):Bool:=(decide ((97:UInt8)≤b)&&decide (b≤(122:UInt8)))||(decide ((48:UInt8)≤b)&&decide (b≤(57:UInt8)))
def A1 (s:l3):Bool:=s.all Z8&&(decide (1≤s.length)&&decide (s.length≤12))
theorem a5Q {Q:UInt8→Prop}(h: ∀n,n<256→Q (UInt8.ofNat n))(b:UInt8):Q b:=by
 have:=h b.toNat b.toNat_lt
 rwa [UInt8.ofNat_toNat] at this
theorem a2h (F:Nat)(b:UInt8):J0 F b=some (Z8 b):=by
 unfold J0 Z8
 cases decide ((97:UInt8)≤b)<;>cases decide (b≤(122:UInt8))<;>cases decide ((48:UInt8)≤b)<;>cases decide (b≤(57:UInt8))<;>rfl
def a35 (b:UInt8):UInt8:=if (65:UInt8)≤b∧b≤(90:UInt8) then b+32 else if Z8 b then b else 0
theorem a4R (F:Nat)(b:UInt8):J9 F b=some (a35 b):=by
 unfold J9 a35 Z8
 by_cases h1:(65:UInt8)≤b<;>by_cases h2:b≤(90:UInt8)<;>by_cases h3:(97:UInt8)≤b<;>by_cases h4:b≤(122:UInt8)<;>by_cases h5:(48:UInt8)≤b<;>by_cases h6:b≤(57:UInt8)<;>simp [h1,h2,h3,h4,h5,h6]
theorem b4p (b:UInt8):((!(a35 b==b))||(b==0))= !Z8 b:=
 a5Q (Q:=fun b=>((!(a35 b==b))||(b==0))= !Z8 b) (by decide +kernel) b
theorem a9a (F:Nat)(n:Nat):u5 F (n:Int) 1 12=some (decide (1≤n)&&decide (n≤12)):=by
 unfold u5
 by_cases h:1≤n
 ·rw [b8 (show (1:Int)≤n by omega),b8 h,j6]
  congr 1
  by_cases h2:n≤12
  ·rw [b8 h2,b8 (by omega)];rfl
  ·rw [c6 h2,c6 (by omega)];rfl
 ·rw [c6 (show ¬(1:Int)≤n by omega),c6 h];rfl
theorem b8H (F:Nat)(n:Nat):G9 F (n:Int) 1 12=some (decide (1≤n)&&decide (n≤12)):=a9a F n
theorem F3 (F:Nat)(s:l3):C0 F s=some (A1 s):=by
 unfold C0 A1
 rw [Q4 (p:=Z8) (xs:=s) (fun i x hx=>?_) s.length 0 (by omega),List.drop_zero]
 ·cases s.all Z8
  ·rfl
  ·show (u5 F (s.length:Int) 1 12).bind _=_
   rw [a9a];rfl
 ·rw [l8,hx,a8,a2h,a8]
  cases Z8 x<;>rfl
theorem a4S (F:Nat)(s:l3)(hF:s.length<F)(hs:s.length≤maxLen):E7 F s=some (A1 s):=by
 unfold E7 A1
 have hm:maxLen≤9223372036854775807:=by decide
 rw [show (0:Int)=((0:Nat):Int) from rfl,a2Y (p:=Z8) (xs:=s) (fun i x hx=>?_) ?_ s.length 0 F (by omega) hF,List.drop_zero]
 ·cases s.all Z8
  ·rfl
  ·show (G9 F (s.length:Int) 1 12).bind _=_
   rw [b8H];rfl
 ·rw [c6 (by omega)];rfl
 ·have hi:=(g8.1 hx).1
  have hw:=b4p x
  rw [b8 (by omega),j6,l8,hx,a8,a4R,a8,a8,u4 (by omega)]
  simp only [a8]
  generalize (x==0)=q at hw ⊢
  generalize (a35 x==x)=r at hw ⊢
  generalize Z8 x=b at hw ⊢
  cases q<;>cases r<;>cases b<;>first | rfl | (exact absurd hw (by decide))
end Go.Fk
namespace Go.Fk
open Go
theorem a2g {σ:Type}{f:Nat→σ→Option σ}(Inv:Nat→σ→Prop)(n:Nat)
  (step: ∀i s,i<n→Inv i s→∃s',f i s=some s'∧Inv (i+1) s'): ∀(k i:Nat) (s:σ),i+k=n→Inv i s→∃t,O6 f k i s=some t∧Inv n t
 | 0,i,s,e,hi=>⟨s,rfl,by rw [←e];exact hi⟩
 | k+1,i,s,e,hi=>by
  obtain⟨s',h1,h2⟩:=step i s (by omega) hi
  obtain⟨t,h3,h4⟩:=a2g Inv n step k (i+1) s' (by omega) h2
  exact⟨t,by rw [O6,h1];exact h3,h4⟩
theorem b9Y {α:Type}{ws:List α}{p:α→Bool}{f:Nat→List α→Option (List α)}(hl:ws.length≤1000)
  (h: ∀(i:Nat) w (out:List α),ws[i]? =some w→out.length≤1000→f i out=some (if p w then out++[w] else out)):O6 f ws.length 0 []=some (ws.filter p):=by
 obtain⟨t,ht,hp⟩:=a2g (σ:=List α) (f:=f) (fun i s'=>s'=(ws.take i).filter p) ws.length (fun i s' hi hs=>by
  have hle:((ws.take i).filter p).length≤1000:=by
   have h1:=List.length_filter_le p (ws.take i)
   simp only [List.length_take] at h1
   omega
  refine⟨_,h i ws[i] s' (i6 hi) (by rw [hs];exact hle),?_⟩
  rw [List.take_succ_eq_append_getElem hi,List.filter_append,hs]
  cases hp:p ws[i]<;>simp [hp]) ws.length 0 [] (by omega) (by simp)
 rw [ht,hp,List.take_length]
theorem b4b {α:Type}{xs:List α}{i:Nat}{q:α×Nat}(h:xs.zipIdx[i]? =some q):xs[i]? =some q.1∧q.2=i:=by
 rw [List.getElem?_zipIdx] at h
 obtain⟨x,hx,rfl⟩:=Option.map_eq_some_iff.1 h
 exact⟨hx,by simp⟩
theorem a27: ∀a b:l3,(!y7 a b)=(y7 b a||b==a)
 | [],[]=>rfl
 | [],_::_=>rfl
 | _::_,[]=>rfl
 | a::x,b::y=>by
  have ih:=a27 x y
  simp only [y7] at ih
  simp only [y7,Op.bytesLess,List.cons_beq_cons]
  rcases Nat.lt_trichotomy a.toNat b.toNat with h | h | h
  ·have h1:decide (a<b)=true:=b8 (UInt8.lt_iff_toNat_lt.2 h)
   have h2:decide (b<a)=false:=c6 (fun q=>by have:=UInt8.lt_iff_toNat_lt.1 q;omega)
   have h3:(b==a)=false:=beq_eq_false_iff_ne.2 (fun q=>by subst q;omega)
   simp [h1,h2,h3]
  ·have h0:=UInt8.toNat_inj.1 h
   subst h0
   have h1:decide (a<a)=false:=c6 (fun q=>by have:=UInt8.lt_iff_toNat_lt.1 q;omega)
   simp only [h1,Bool.false_or,beq_self_eq_true,n8]
   exact ih
  ·have h1:decide (a<b)=false:=c6 (fun q=>by have:=UInt8.lt_iff_toNat_lt.1 q;omega)
   have h2:decide (b<a)=true:=b8 (UInt8.lt_iff_toNat_lt.2 h)
   have h3:(a==b)=false:=beq_eq_false_iff_ne.2 (fun q=>by subst q;omega)
   simp [h1,h2,h3]
def a69 {α:Type}(ok:α→Bool)(lt:α→α→Bool)(xs:List α)(q:α×Nat):Bool:=ok q.1&&(decide (q.2=0)||((xs[q.2-1]?).elim true fun g=>lt g q.1))
def a1c {α:Type}(ok:α→Bool)(lt:α→α→Bool)(xs:List α):Bool:=xs.zipIdx.all (a69 ok lt xs)
theorem a3g {α:Type}{ok:α→Bool}{lt:α→α→Bool}{xs:List α}{f:Nat→Unit→Option (Unit⊕Bool)}
  (h: ∀(i:Nat) x,xs[i]? =some x→f i ()=some (if ok x&&(decide (i=0)||((xs[i-1]?).elim true fun g=>lt g x)) then .inl () else .inr false)):
  y6 f xs.length 0 ()=some (if a1c ok lt xs then .inl () else .inr false):=by
 have hz:xs.length=xs.zipIdx.length:=by simp
 rw [Q4 (p:=a69 ok lt xs) (xs:=xs.zipIdx) (fun i q hq=>?_) xs.length 0 (by omega),List.drop_zero]
 ·rfl
 ·obtain⟨hx,hi⟩:=b4b hq
  rw [h i q.1 hx,a69,hi]
theorem a3I {α:Type}{ok:α→Bool}{lt:α→α→Bool}{xs:List α}{f:Int→Option (Int⊕(Unit⊕Bool))}
  (h: ∀(i:Nat) x,xs[i]? =some x→f (i:Int)=some (if ok x&&(decide (i=0)||((xs[i-1]?).elim true fun g=>lt g x)) then .inl ((i+1:Nat):Int) else .inr (.inr false)))
  (h0:f (xs.length:Int)=some (.inr (.inl ())))(F:Nat)(hF:xs.length<F):
  u0 f F (0:Int)=some (if a1c ok lt xs then .inl () else .inr false):=by
 have hz:xs.length=xs.zipIdx.length:=by simp
 have:=a2Y (p:=a69 ok lt xs) (xs:=xs.zipIdx) (f:=f) (fun i q hq=>?_) (by rw [←hz];exact h0) xs.length 0 F (by omega) hF
 ·rw [List.drop_zero] at this
  exact this
 ·obtain⟨hx,hi⟩:=b4b hq
  rw [h i q.1 hx,a69,hi]
theorem a2u {α:Type}{ok:α→Bool}{lt:α→α→Bool}{xs:List α}(h:a1c ok lt xs=true):(∀x∈xs,ok x=true)∧∀i,(hi:i+1<xs.length)→lt xs[i] xs[i+1]=true:=by
 unfold a1c at h
 rw [List.all_eq_true] at h
 have hat: ∀i,(hi:i<xs.length)→a69 ok lt xs (xs[i],i)=true:=fun i hi=>h (xs[i],i) (by
  rw [List.mem_iff_getElem?]
  exact⟨i,by rw [List.getElem?_zipIdx,i6 hi];simp⟩)
 refine⟨fun x hx=>?_,fun i hi=>?_⟩
 ·obtain⟨i,hi,rfl⟩:=List.mem_iff_getElem.1 hx
  have:=hat i hi
  unfold a69 at this
  rw [l5] at this
  exact this.1
 ·have:=hat (i+1) hi
  unfold a69 at this
  rw [l5] at this
  have h2:=this.2
  rw [c6 (by omega),Nat.add_sub_cancel,i6 (show i<xs.length by omega)] at h2
  exact h2
theorem F9 (F:Nat)(n a b:Int):u5 F n a b=some (decide (a≤n)&&decide (n≤b)):=by
 unfold u5
 cases decide (a≤n)<;>rfl
theorem inS (F:Nat)(n a b:Int):G9 F n a b=some (decide (a≤n)&&decide (n≤b)):=by
 unfold G9
 cases decide (a≤n)<;>rfl
theorem F5 {α:Type}{n:Nat}{xs ys:List α}(h:(xs.length+ys.length)*n≤140737488355328):J5 n xs ys=some (xs++ys):=by rw [J5,if_pos h]
end Go.Fk
namespace Go.Fk
open Go
theorem M0 {α:Type}(b:Bool)(x y:α):(if b=true then x else y)=bif b then x else y:=by cases b<;>rfl
theorem a5V {α σ τ:Type}{xs:List α}{p:α→Bool}{g:α→τ}{s:σ}{f:Nat→σ→Option (σ⊕τ)}(h: ∀i x,xs[i]? =some x→f i s=some (if p x then .inr (g x) else .inl s)):
  ∀k i,i+k=xs.length→y6 f k i s=some (((xs.drop i).find? p).elim (.inl s) fun x=>.inr (g x))
 | 0,i,e=>by rw [y6,List.drop_of_length_le (by omega)];rfl
 | k+1,i,e=>by
  have hi:i<xs.length:=by omega
  rw [y6,h i xs[i] (i6 hi),List.drop_eq_getElem_cons hi,List.find?_cons]
  cases hp:p xs[i]
  ·rw [a8];exact a5V h k (i+1) (by omega)
  ·rfl
theorem a1u {α σ τ:Type}{xs:List α}(p:α→Bool)(g:α→τ){s:σ}{f:Nat→σ→Option (σ⊕τ)}(h: ∀i x,xs[i]? =some x→f i s=some (if p x then .inr (g x) else .inl s)):
  y6 f xs.length 0 s=some ((xs.find? p).elim (.inl s) fun x=>.inr (g x)):=a5V h xs.length 0 (by omega)
theorem a48 {α τ:Type}{xs:List α}{p:α→Bool}{g:α→τ}{e:τ}{f:Int→Option (Int⊕τ)}(h: ∀(i:Nat) x,xs[i]? =some x→f (i:Int)=some (if p x then .inr (g x) else .inl ((i+1:Nat):Int)))(h0:f (xs.length:Int)=some (.inr e)):
  ∀k i F,i+k=xs.length→k<F→u0 f F (i:Int)=some (((xs.drop i).find? p).elim e g)
 | 0,i,F,he,hF=>by
  obtain⟨F,rfl⟩: ∃G,F=G+1:=⟨F-1,by omega⟩
  rw [u0,show i=xs.length by omega,h0,List.drop_of_length_le (Nat.le_refl _)];rfl
 | k+1,i,F,he,hF=>by
  obtain⟨F,rfl⟩: ∃G,F=G+1:=⟨F-1,by omega⟩
  have hi:i<xs.length:=by omega
  rw [u0,h i xs[i] (i6 hi),List.drop_eq_getElem_cons hi,List.find?_cons]
  cases hp:p xs[i]
  ·rw [a8];exact a48 h h0 k (i+1) F (by omega) (by omega)
  ·rfl
theorem a3D {α τ:Type}{xs:List α}(p:α→Bool)(g:α→τ){e:τ}{f:Int→Option (Int⊕τ)}(F:Nat)(hF:xs.length<F)(h: ∀(i:Nat) x,xs[i]? =some x→f (i:Int)=some (if p x then .inr (g x) else .inl ((i+1:Nat):Int)))(h0:f (xs.length:Int)=some (.inr e)):
  u0 f F (0:Int)=some ((xs.find? p).elim e g):=a48 h h0 xs.length 0 F (by omega) hF
theorem a3s {α:Type}(p:α→Bool){xs:List α}{f:Int→Option (Int⊕(Unit⊕Bool))}(F:Nat)(hF:xs.length<F)(h: ∀(i:Nat) x,xs[i]? =some x→f (i:Int)=some (if p x then .inl ((i+1:Nat):Int) else .inr (.inr false)))
  (h0:f (xs.length:Int)=some (.inr (.inl ()))):u0 f F (0:Int)=some (if xs.all p then .inl () else .inr false):=by
 have:=a2Y (p:=p) h h0 xs.length 0 F (by omega) hF
 rwa [List.drop_zero] at this
theorem a62 {α σ:Type}{xs:List α}{p:α→Bool}{s:σ}{f:Nat→σ→Option (σ⊕Int)}(h: ∀i x,xs[i]? =some x→f i s=some (if p x then .inr (i:Int) else .inl s)):
  ∀k i,i+k=xs.length→y6 f k i s=some (((xs.drop i).findIdx? p).elim (.inl s) fun j=>.inr ((i+j:Nat):Int))
 | 0,i,e=>by rw [y6,List.drop_of_length_le (by omega)];rfl
 | k+1,i,e=>by
  have hi:i<xs.length:=by omega
  rw [y6,h i xs[i] (i6 hi),List.drop_eq_getElem_cons hi,List.findIdx?_cons]
  cases hp:p xs[i]
  ·rw [a8]
   show y6 f k (i+1) s=_
   rw [a62 h k (i+1) (by omega)]
   cases (xs.drop (i+1)).findIdx? p with
   | none=>rfl
   | some j=>simp;omega
  ·simp
theorem b1s {α σ:Type}{xs:List α}(p:α→Bool){s:σ}{f:Nat→σ→Option (σ⊕Int)}(h: ∀i x,xs[i]? =some x→f i s=some (if p x then .inr (i:Int) else .inl s)):
  y6 f xs.length 0 s=some ((xs.findIdx? p).elim (.inl s) fun j=>.inr (j:Int)):=by
 rw [a62 h xs.length 0 (by omega),List.drop_zero]
 cases xs.findIdx? p<;>simp
theorem b8G {α:Type}(p:α→Bool)(xs:List α):(decide ((0:Int)≤((xs.findIdx? p).elim (-1:Int) fun j=>(j:Int))))=xs.any p:=by
 induction xs with
 | nil=>rfl
 | cons x r ih=>
  rw [List.findIdx?_cons,List.any_cons]
  cases hp:p x
  ·simp only [Bool.false_or,←ih]
   cases r.findIdx? p with
   | none=>rfl
   | some j=>simp;omega
  ·simp
end Go.Fk
namespace Go.Fk
open Go
theorem a8j {α β:Type}{xs:List α}{g:α→List β}{B:Nat}{f:Nat→List β→Option (List β)}(h: ∀i x acc,xs[i]? =some x→(acc++g x).length≤B→f i acc=some (acc++g x)):
  ∀k i acc,i+k=xs.length→(acc++(xs.drop i).flatMap g).length≤B→O6 f k i acc=some (acc++(xs.drop i).flatMap g)
 | 0,i,acc,e,hB=>by rw [O6,List.drop_of_length_le (by omega)];simp
 | k+1,i,acc,e,hB=>by
  have hi:i<xs.length:=by omega
  rw [List.drop_eq_getElem_cons hi,List.flatMap_cons,←List.append_assoc] at hB ⊢
  rw [O6,h i xs[i] acc (i6 hi) (by rw [j8] at hB;omega),a8]
  exact a8j h k (i+1) _ (by omega) hB
theorem a4K {α β:Type}{xs:List α}(g:α→List β)(B:Nat){f:Nat→List β→Option (List β)}(h: ∀i x acc,xs[i]? =some x→(acc++g x).length≤B→f i acc=some (acc++g x))(acc:List β)(hB:(acc++xs.flatMap g).length≤B):
  O6 f xs.length 0 acc=some (acc++xs.flatMap g):=by
 have:=a8j h xs.length 0 acc (by omega) (by rwa [List.drop_zero])
 rwa [List.drop_zero] at this
theorem a61 {α β:Type}{xs:List α}{g:α→List β}{B:Nat}{f:List β×Int→Option ((List β×Int)⊕List β)}(h: ∀(i:Nat) x acc,xs[i]? =some x→(acc++g x).length≤B→f (acc,(i:Int))=some (.inl (acc++g x,((i+1:Nat):Int))))
  (h0: ∀acc,f (acc,(xs.length:Int))=some (.inr acc)): ∀k i acc F,i+k=xs.length→k<F→(acc++(xs.drop i).flatMap g).length≤B→u0 f F (acc,(i:Int))=some (acc++(xs.drop i).flatMap g)
 | 0,i,acc,F,e,hF,hB=>by
  obtain⟨F,rfl⟩: ∃G,F=G+1:=⟨F-1,by omega⟩
  rw [u0,show i=xs.length by omega,h0,List.drop_of_length_le (Nat.le_refl _)];simp
 | k+1,i,acc,F,e,hF,hB=>by
  obtain⟨F,rfl⟩: ∃G,F=G+1:=⟨F-1,by omega⟩
  have hi:i<xs.length:=by omega
  rw [List.drop_eq_getElem_cons hi,List.flatMap_cons,←List.append_assoc] at hB ⊢
  rw [u0,h i xs[i] acc (i6 hi) (by rw [j8] at hB;omega),a8]
  exact a61 h h0 k (i+1) _ F (by omega) (by omega) hB
theorem b1l {α β:Type}{xs:List α}(g:α→List β)(B:Nat){f:List β×Int→Option ((List β×Int)⊕List β)}(F:Nat)(hF:xs.length<F)(h: ∀(i:Nat) x acc,xs[i]? =some x→(acc++g x).length≤B→f (acc,(i:Int))=some (.inl (acc++g x,((i+1:Nat):Int))))
  (h0: ∀acc,f (acc,(xs.length:Int))=some (.inr acc))(acc:List β)(hB:(acc++xs.flatMap g).length≤B):u0 f F (acc,(0:Int))=some (acc++xs.flatMap g):=by
 have:=a61 h h0 xs.length 0 acc F (by omega) hF (by rwa [List.drop_zero])
 rwa [List.drop_zero] at this
theorem a5W {α σ:Type}{xs:List α}{g:σ→α→σ}{f:Nat→σ→Option σ}(h: ∀i x s,xs[i]? =some x→f i s=some (g s x)): ∀k i s,i+k=xs.length→O6 f k i s=some ((xs.drop i).foldl g s)
 | 0,i,s,e=>by rw [O6,List.drop_of_length_le (by omega)];rfl
 | k+1,i,s,e=>by
  have hi:i<xs.length:=by omega
  rw [O6,h i xs[i] s (i6 hi),List.drop_eq_getElem_cons hi,a8,List.foldl_cons]
  exact a5W h k (i+1) _ (by omega)
theorem a4L {α σ:Type}{xs:List α}(g:σ→α→σ){f:Nat→σ→Option σ}(h: ∀i x s,xs[i]? =some x→f i s=some (g s x))(s:σ):O6 f xs.length 0 s=some (xs.foldl g s):=by
 have:=a5W h xs.length 0 s (by omega)
 rwa [List.drop_zero] at this
theorem U0 {α β:Type}{g:α→List β}{m:Nat}: ∀(xs:List α),(∀x∈xs,(g x).length≤m)→(xs.flatMap g).length≤xs.length*m
 | [],_=>by simp
 | x::r,h=>by
  have h1:=h x (List.mem_cons_self ..)
  have h2:=U0 r fun y hy=>h y (List.mem_cons_of_mem _ hy)
  rw [List.flatMap_cons,j8,l9,Nat.add_mul];omega
end Go.Fk
