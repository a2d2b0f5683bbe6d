import Derived.Test.YtnloenhmkdpgeaaGreatDoorCoreAL
import Derived.Test.YtnloenhmkdpgeaaGreatDoorModel
/-
  How the models' loops run: a step's law gives the loop's law. Of no program.
-/
namespace Go.Fk
open Go
theorem I7 {σ τ:Type}{f:σ→Option (σ⊕τ)}{Post:τ→Prop}(Inv:Nat→σ→Prop)(n:Nat)
  (step: ∀i s,i<n→Inv i s→(∃s',f s=some (.inl s')∧Inv (i+1) s')∨(∃t,f s=some (.inr t)∧Post t))
  (fin: ∀s,Inv n s→∃t,f s=some (.inr t)∧Post t): ∀(k i:Nat) (s:σ) (F:Nat),i+k=n→k<F→Inv i s→∃t,y2 f F s=some t∧Post t
 | 0,i,s,F,e,hF,hi=>by
  obtain⟨F,rfl⟩: ∃G,F=G+1:=⟨F-1,by omega⟩
  obtain⟨t,h1,h2⟩:=fin s (by rw [←e];exact hi)
  exact⟨t,by rw [y2,h1];rfl,h2⟩
 | k+1,i,s,F,e,hF,hi=>by
  obtain⟨F,rfl⟩: ∃G,F=G+1:=⟨F-1,by omega⟩
  rcases step i s (by omega) hi with ⟨s',h1,h2⟩ | ⟨t,h1,h2⟩
  ·obtain⟨t,h3,h4⟩:=I7 Inv n step fin k (i+1) s' F (by omega) (by omega) h2
   exact⟨t,by rw [y2,h1];exact h3,h4⟩
  ·exact⟨t,by rw [y2,h1];rfl,h2⟩
theorem T5 {α:Type}{xs:List α}{i:Nat}(h:i<xs.length):v8 xs (i:Int)=some xs[i]:=by
 unfold v8
 rw [if_pos (by omega)]
 exact j8 (by omega)
theorem b3g {i:Nat}(h:i<9000000000000000000):z8 (i:Int)=i:=C5 ⟨by omega,by omega⟩
theorem a0y {i:Nat}(h0:0<i)(h:i<9000000000000000000):z8 ((i:Int)-1)=((i-1:Nat):Int):=by rw [C5 ⟨by omega,by omega⟩];omega
theorem b0j {n:Nat}{τ:Type}{f:Int→Option (Int⊕(Unit⊕τ))}(h: ∀i:Nat,i<n→f (i:Int)=some (.inl ((i+1:Nat):Int)))
  (h0:f (n:Int)=some (.inr (.inl ()))): ∀k i F,i+k=n→k<F→y2 f F (i:Int)=some (.inl ())
 | 0,i,F,e,hF=>by
  obtain⟨F,rfl⟩: ∃G,F=G+1:=⟨F-1,by omega⟩
  rw [y2,show i=n by omega,h0];rfl
 | k+1,i,F,e,hF=>by
  obtain⟨F,rfl⟩: ∃G,F=G+1:=⟨F-1,by omega⟩
  rw [y2,h i (by omega)]
  exact b0j h h0 k (i+1) F (by omega) (by omega)
theorem b2T {n:Nat}{τ:Type}{f:Int→Option (Int⊕(Unit⊕τ))}(F:Nat)(hF:n<F)(h: ∀i:Nat,i<n→f (i:Int)=some (.inl ((i+1:Nat):Int)))
  (h0:f (n:Int)=some (.inr (.inl ()))):y2 f F (0:Int)=some (.inl ()):=b0j h h0 n 0 F (by omega) hF
end Go.Fk
namespace Go.Fk
open Go
theorem n8 {α:Type}(xs:List α)(i:Nat):v8 xs (i:Int)=xs[i]? :=by simp [v8]
theorem y5 {i:Nat}(h:i<9223372036854775807):z8 ((i:Int)+1)=((i+1:Nat):Int):=by rw [C5 ⟨by omega,by omega⟩];rfl
theorem a0s {α:Type}{p:α→Bool}{xs:List α}{f:Nat→Unit→Option (Unit⊕Bool)}(h: ∀i x,xs[i]? =some x→f i ()=some (if p x then .inl () else .inr false)):
  ∀k i,i+k=xs.length→D1 f k i ()=some (if (xs.drop i).all p then .inl () else .inr false)
 | 0,i,e=>by rw [List.drop_eq_nil_of_le (by omega)];rfl
 | k+1,i,e=>by
  have hi:i<xs.length:=by omega
  rw [D1,h i xs[i] (j8 hi),List.drop_eq_getElem_cons hi,List.all_cons]
  cases hp:p xs[i]
  ·rfl
  ·simp only [u5]
   exact a0s h k (i+1) (by omega)
theorem a6P {α:Type}{p:α→Bool}{xs:List α}{f:Int→Option (Int⊕(Unit⊕Bool))}(h: ∀(i:Nat) x,xs[i]? =some x→f (i:Int)=some (if p x then .inl ((i+1:Nat):Int) else .inr (.inr false)))
  (h0:f (xs.length:Int)=some (.inr (.inl ()))): ∀k i F,i+k=xs.length→k<F→y2 f F (i:Int)=some (if (xs.drop i).all p then .inl () else .inr false)
 | 0,i,F,e,hF=>by
  obtain⟨F,rfl⟩: ∃G,F=G+1:=⟨F-1,by omega⟩
  rw [y2,show i=xs.length by omega,h0,List.drop_eq_nil_of_le (by omega)];rfl
 | k+1,i,F,e,hF=>by
  obtain⟨F,rfl⟩: ∃G,F=G+1:=⟨F-1,by omega⟩
  have hi:i<xs.length:=by omega
  rw [y2,h i xs[i] (j8 hi),List.drop_eq_getElem_cons hi,List.all_cons]
  cases hp:p xs[i]
  ·rfl
  ·simp only [u5]
   exact a6P h h0 k (i+1) F (by omega) (by omega)
end Go.Fk
namespace Go.Fk
open Go
def a1E (b:UInt8):Bool:=(decide ((97:UInt8)≤b)&&decide (b≤(122:UInt8)))||(decide ((48:UInt8)≤b)&&decide (b≤(57:UInt8)))
def D0 (s:r4):Bool:=s.all a1E&&(decide (1≤s.length)&&decide (s.length≤12))
theorem b0g {Q:UInt8→Prop}(h: ∀n,n<256→Q (UInt8.ofNat n))(b:UInt8):Q b:=by
 have:=h b.toNat b.toNat_lt
 rwa [UInt8.ofNat_toNat] at this
theorem a5O (F:Nat)(b:UInt8):U1 F b=some (a1E b):=by
 unfold U1 a1E
 cases decide ((97:UInt8)≤b)<;>cases decide (b≤(122:UInt8))<;>cases decide ((48:UInt8)≤b)<;>cases decide (b≤(57:UInt8))<;>rfl
def a8a (b:UInt8):UInt8:=if (65:UInt8)≤b∧b≤(90:UInt8) then b+32 else if a1E b then b else 0
theorem a89 (F:Nat)(b:UInt8):V7 F b=some (a8a b):=by
 unfold V7 a8a a1E
 by_cases h1:(65:UInt8)≤b<;>by_cases h2:b≤(90:UInt8)<;>by_cases h3:(97:UInt8)≤b<;>by_cases h4:b≤(122:UInt8)<;>by_cases h5:(48:UInt8)≤b<;>by_cases h6:b≤(57:UInt8)<;>simp [h1,h2,h3,h4,h5,h6]
theorem b93 (b:UInt8):((!(a8a b==b))||(b==0))= !a1E b:=
 b0g (Q:=fun b=>((!(a8a b==b))||(b==0))= !a1E b) (by decide +kernel) b
theorem b4r (F:Nat)(n:Nat):B3 F (n:Int) 1 12=some (decide (1≤n)&&decide (n≤12)):=by
 unfold B3
 by_cases h:1≤n
 ·rw [b8 (show (1:Int)≤n by omega),b8 h,j4]
  congr 1
  by_cases h2:n≤12
  ·rw [b8 h2,b8 (by omega)];rfl
  ·rw [c6 h2,c6 (by omega)];rfl
 ·rw [c6 (show ¬(1:Int)≤n by omega),c6 h];rfl
theorem c4R (F:Nat)(n:Nat):G0 F (n:Int) 1 12=some (decide (1≤n)&&decide (n≤12)):=b4r F n
theorem O0 (F:Nat)(s:r4):H1 F s=some (D0 s):=by
 unfold H1 D0
 rw [a0s (p:=a1E) (xs:=s) (fun i x hx=>?_) s.length 0 (by omega),List.drop_zero]
 ·cases s.all a1E
  ·rfl
  ·show (B3 F (s.length:Int) 1 12).bind _=_
   rw [b4r];rfl
 ·rw [n8,hx,a8,a5O,a8]
  cases a1E x<;>rfl
theorem b1O (F:Nat)(s:r4)(hF:s.length<F)(hs:s.length≤maxLen):E5 F s=some (D0 s):=by
 unfold E5 D0
 have hm:maxLen≤9223372036854775807:=by decide
 rw [show (0:Int)=((0:Nat):Int) from rfl,a6P (p:=a1E) (xs:=s) (fun i x hx=>?_) ?_ s.length 0 F (by omega) hF,List.drop_zero]
 ·cases s.all a1E
  ·rfl
  ·show (G0 F (s.length:Int) 1 12).bind _=_
   rw [c4R];rfl
 ·rw [c6 (by omega)];rfl
 ·have hi:=(i4.1 hx).1
  have hw:=b93 x
  rw [b8 (by omega),j4,n8,hx,a8,a89,a8,a8,y5 (by omega)]
  simp only [a8]
  generalize (x==0)=q at hw ⊢
  generalize (a8a x==x)=r at hw ⊢
  generalize a1E x=b at hw ⊢
  cases q<;>cases r<;>cases b<;>first | rfl | (exact absurd hw (by decide))
end Go.Fk
namespace Go.Fk
open Go
theorem a6T {σ:Type}{f:Nat→σ→Option σ}(Inv:Nat→σ→Prop)(n:Nat)
  (step: ∀i s,i<n→Inv i s→∃s',f i s=some s'∧Inv (i+1) s'): ∀(k i:Nat) (s:σ),i+k=n→Inv i s→∃t,a0C f k i s=some t∧Inv n t
 | 0,i,s,e,hi=>⟨s,rfl,by rw [←e];exact hi⟩
 | k+1,i,s,e,hi=>by
  obtain⟨s',h1,h2⟩:=step i s (by omega) hi
  obtain⟨t,h3,h4⟩:=a6T Inv n step k (i+1) s' (by omega) h2
  exact⟨t,by rw [a0C,h1];exact h3,h4⟩
theorem c6H {α:Type}{ws:List α}{p:α→Bool}{f:Nat→List α→Option (List α)}(hl:ws.length≤1000)
  (h: ∀(i:Nat) w (out:List α),ws[i]? =some w→out.length≤1000→f i out=some (if p w then out++[w] else out)):a0C f ws.length 0 []=some (ws.filter p):=by
 obtain⟨t,ht,hp⟩:=a6T (σ:=List α) (f:=f) (fun i s'=>s'=(ws.take i).filter p) ws.length (fun i s' hi hs=>by
  have hle:((ws.take i).filter p).length≤1000:=by
   have h1:=List.length_filter_le p (ws.take i)
   simp only [List.length_take] at h1
   omega
  refine⟨_,h i ws[i] s' (j8 hi) (by rw [hs];exact hle),?_⟩
  rw [List.take_succ_eq_append_getElem hi,List.filter_append,hs]
  cases hp:p ws[i]<;>simp [hp]) ws.length 0 [] (by omega) (by simp)
 rw [ht,hp,List.take_length]
theorem c6J {α:Type}{ws:List α}{p:α→Bool}{f:(List α)×Int→Option (((List α)×Int)⊕(List α))}(hl:ws.length≤1000)
  (h: ∀(i:Nat) w (out:List α),ws[i]? =some w→out.length≤1000→f (out,(i:Int))=some (.inl (if p w then out++[w] else out,((i+1:Nat):Int))))
  (h0: ∀out,f (out,(ws.length:Int))=some (.inr out))(F:Nat)(hF:ws.length<F):y2 f F (([]:List α),(0:Int))=some (ws.filter p):=by
 obtain⟨t,ht,hp⟩:=I7 (σ:=(List α)×Int) (τ:=List α) (f:=f) (Post:=fun t=>t=ws.filter p) (fun i s=>s=((ws.take i).filter p,(i:Int))) ws.length (fun i s hi hs=>by
  subst hs
  have hle:((ws.take i).filter p).length≤1000:=by
   have h1:=List.length_filter_le p (ws.take i)
   simp only [List.length_take] at h1
   omega
  refine .inl ⟨_,h i ws[i] _ (j8 hi) hle,?_⟩
  rw [List.take_succ_eq_append_getElem hi,List.filter_append]
  cases hp:p ws[i]<;>simp [hp]) (fun s hs=>by
  subst hs
  exact⟨_,h0 _,by rw [List.take_length]⟩) ws.length 0 (([]:List α),(0:Int)) F (by omega) hF (by simp)
 rw [ht,hp]
theorem b4w {α:Type}{xs:List α}{i:Nat}{q:α×Nat}(h:xs.zipIdx[i]? =some q):xs[i]? =some q.1∧q.2=i:=by
 rw [List.getElem?_zipIdx] at h
 obtain⟨x,hx,rfl⟩:=Option.map_eq_some_iff.1 h
 exact⟨hx,by simp⟩
theorem a6X: ∀a b:r4,(!D2 a b)=(D2 b a||b==a)
 | [],[]=>rfl
 | [],_::_=>rfl
 | _::_,[]=>rfl
 | a::x,b::y=>by
  have ih:=a6X x y
  simp only [D2] at ih
  simp only [D2,Op.bytesLess,List.cons_beq_cons]
  rcases Nat.lt_trichotomy a.toNat b.toNat with h | h | h
  ·have h1:decide (a<b)=true:=b8 (UInt8.lt_iff_toNat_lt.2 h)
   have h2:decide (b<a)=false:=c6 (fun q=>by have:=UInt8.lt_iff_toNat_lt.1 q;omega)
   have h3:(b==a)=false:=beq_eq_false_iff_ne.2 (fun q=>by subst q;omega)
   simp [h1,h2,h3]
  ·have h0:=UInt8.toNat_inj.1 h
   subst h0
   have h1:decide (a<a)=false:=c6 (fun q=>by have:=UInt8.lt_iff_toNat_lt.1 q;omega)
   simp only [h1,Bool.false_or,beq_self_eq_true,u5]
   exact ih
  ·have h1:decide (a<b)=false:=c6 (fun q=>by have:=UInt8.lt_iff_toNat_lt.1 q;omega)
   have h2:decide (b<a)=true:=b8 (UInt8.lt_iff_toNat_lt.2 h)
   have h3:(a==b)=false:=beq_eq_false_iff_ne.2 (fun q=>by subst q;omega)
   simp [h1,h2,h3]
def b0R {α:Type}(ok:α→Bool)(lt:α→α→Bool)(xs:List α)(q:α×Nat):Bool:=ok q.1&&(decide (q.2=0)||((xs[q.2-1]?).elim true fun g=>lt g q.1))
def a3x {α:Type}(ok:α→Bool)(lt:α→α→Bool)(xs:List α):Bool:=xs.zipIdx.all (b0R ok lt xs)
theorem a63 {α:Type}{ok:α→Bool}{lt:α→α→Bool}{xs:List α}{f:Nat→Unit→Option (Unit⊕Bool)}
  (h: ∀(i:Nat) x,xs[i]? =some x→f i ()=some (if ok x&&(decide (i=0)||((xs[i-1]?).elim true fun g=>lt g x)) then .inl () else .inr false)):
  D1 f xs.length 0 ()=some (if a3x ok lt xs then .inl () else .inr false):=by
 have hz:xs.length=xs.zipIdx.length:=by simp
 rw [a0s (p:=b0R ok lt xs) (xs:=xs.zipIdx) (fun i q hq=>?_) xs.length 0 (by omega),List.drop_zero]
 ·rfl
 ·obtain⟨hx,hi⟩:=b4w hq
  rw [h i q.1 hx,b0R,hi]
theorem a6a {α:Type}{ok:α→Bool}{lt:α→α→Bool}{xs:List α}{f:Int→Option (Int⊕(Unit⊕Bool))}
  (h: ∀(i:Nat) x,xs[i]? =some x→f (i:Int)=some (if ok x&&(decide (i=0)||((xs[i-1]?).elim true fun g=>lt g x)) then .inl ((i+1:Nat):Int) else .inr (.inr false)))
  (h0:f (xs.length:Int)=some (.inr (.inl ())))(F:Nat)(hF:xs.length<F):
  y2 f F (0:Int)=some (if a3x ok lt xs then .inl () else .inr false):=by
 have hz:xs.length=xs.zipIdx.length:=by simp
 have:=a6P (p:=b0R ok lt xs) (xs:=xs.zipIdx) (f:=f) (fun i q hq=>?_) (by rw [←hz];exact h0) xs.length 0 F (by omega) hF
 ·rw [List.drop_zero] at this
  exact this
 ·obtain⟨hx,hi⟩:=b4w hq
  rw [h i q.1 hx,b0R,hi]
theorem a59 {α:Type}{ok:α→Bool}{lt:α→α→Bool}{xs:List α}(h:a3x ok lt xs=true):(∀x∈xs,ok x=true)∧∀i,(hi:i+1<xs.length)→lt xs[i] xs[i+1]=true:=by
 unfold a3x at h
 rw [List.all_eq_true] at h
 have hat: ∀i,(hi:i<xs.length)→b0R ok lt xs (xs[i],i)=true:=fun i hi=>h (xs[i],i) (by
  rw [List.mem_iff_getElem?]
  exact⟨i,by rw [List.getElem?_zipIdx,j8 hi];simp⟩)
 refine⟨fun x hx=>?_,fun i hi=>?_⟩
 ·obtain⟨i,hi,rfl⟩:=List.mem_iff_getElem.1 hx
  have:=hat i hi
  unfold b0R at this
  rw [q8] at this
  exact this.1
 ·have:=hat (i+1) hi
  unfold b0R at this
  rw [q8] at this
  have h2:=this.2
  rw [c6 (by omega),Nat.add_sub_cancel,j8 (show i<xs.length by omega)] at h2
  exact h2
theorem O8 (F:Nat)(n a b:Int):B3 F n a b=some (decide (a≤n)&&decide (n≤b)):=by
 unfold B3
 cases decide (a≤n)<;>rfl
theorem inS (F:Nat)(n a b:Int):G0 F n a b=some (decide (a≤n)&&decide (n≤b)):=by
 unfold G0
 cases decide (a≤n)<;>rfl
theorem H4 {α:Type}{n:Nat}{xs ys:List α}(h:(xs.length+ys.length)*n≤140737488355328):O2 n xs ys=some (xs++ys):=by rw [O2,if_pos h]
end Go.Fk
namespace Go.Fk
open Go
theorem T6 {α:Type}(b:Bool)(x y:α):(if b=true then x else y)=bif b then x else y:=by cases b<;>rfl
theorem b0p {α σ τ:Type}{xs:List α}{p:α→Bool}{g:α→τ}{s:σ}{f:Nat→σ→Option (σ⊕τ)}(h: ∀i x,xs[i]? =some x→f i s=some (if p x then .inr (g x) else .inl s)):
  ∀k i,i+k=xs.length→D1 f k i s=some (((xs.drop i).find? p).elim (.inl s) fun x=>.inr (g x))
 | 0,i,e=>by rw [D1,List.drop_of_length_le (by omega)];rfl
 | k+1,i,e=>by
  have hi:i<xs.length:=by omega
  rw [D1,h i xs[i] (j8 hi),List.drop_eq_getElem_cons hi,List.find?_cons]
  cases hp:p xs[i]
  ·rw [a8];exact b0p h k (i+1) (by omega)
  ·rfl
theorem a4P {α σ τ:Type}{xs:List α}(p:α→Bool)(g:α→τ){s:σ}{f:Nat→σ→Option (σ⊕τ)}(h: ∀i x,xs[i]? =some x→f i s=some (if p x then .inr (g x) else .inl s)):
  D1 f xs.length 0 s=some ((xs.find? p).elim (.inl s) fun x=>.inr (g x)):=b0p h xs.length 0 (by omega)
theorem a9w {α τ:Type}{xs:List α}{p:α→Bool}{g:α→τ}{e:τ}{f:Int→Option (Int⊕τ)}(h: ∀(i:Nat) x,xs[i]? =some x→f (i:Int)=some (if p x then .inr (g x) else .inl ((i+1:Nat):Int)))(h0:f (xs.length:Int)=some (.inr e)):
  ∀k i F,i+k=xs.length→k<F→y2 f F (i:Int)=some (((xs.drop i).find? p).elim e g)
 | 0,i,F,he,hF=>by
  obtain⟨F,rfl⟩: ∃G,F=G+1:=⟨F-1,by omega⟩
  rw [y2,show i=xs.length by omega,h0,List.drop_of_length_le (Nat.le_refl _)];rfl
 | k+1,i,F,he,hF=>by
  obtain⟨F,rfl⟩: ∃G,F=G+1:=⟨F-1,by omega⟩
  have hi:i<xs.length:=by omega
  rw [y2,h i xs[i] (j8 hi),List.drop_eq_getElem_cons hi,List.find?_cons]
  cases hp:p xs[i]
  ·rw [a8];exact a9w h h0 k (i+1) F (by omega) (by omega)
  ·rfl
theorem a0u {α τ:Type}{xs:List α}(p:α→Bool)(g:α→τ){e:τ}{f:Int→Option (Int⊕τ)}(F:Nat)(hF:xs.length<F)(h: ∀(i:Nat) x,xs[i]? =some x→f (i:Int)=some (if p x then .inr (g x) else .inl ((i+1:Nat):Int)))(h0:f (xs.length:Int)=some (.inr e)):
  y2 f F (0:Int)=some ((xs.find? p).elim e g):=a9w h h0 xs.length 0 F (by omega) hF
theorem a1R {α:Type}(p:α→Bool){xs:List α}{f:Int→Option (Int⊕(Unit⊕Bool))}(F:Nat)(hF:xs.length<F)(h: ∀(i:Nat) x,xs[i]? =some x→f (i:Int)=some (if p x then .inl ((i+1:Nat):Int) else .inr (.inr false)))
  (h0:f (xs.length:Int)=some (.inr (.inl ()))):y2 f F (0:Int)=some (if xs.all p then .inl () else .inr false):=by
 have:=a6P (p:=p) h h0 xs.length 0 F (by omega) hF
 rwa [List.drop_zero] at this
theorem b10 {α σ:Type}{xs:List α}{p:α→Bool}{s:σ}{f:Nat→σ→Option (σ⊕Int)}(h: ∀i x,xs[i]? =some x→f i s=some (if p x then .inr (i:Int) else .inl s)):
  ∀k i,i+k=xs.length→D1 f k i s=some (((xs.drop i).findIdx? p).elim (.inl s) fun j=>.inr ((i+j:Nat):Int))
 | 0,i,e=>by rw [D1,List.drop_of_length_le (by omega)];rfl
 | k+1,i,e=>by
  have hi:i<xs.length:=by omega
  rw [D1,h i xs[i] (j8 hi),List.drop_eq_getElem_cons hi,List.findIdx?_cons]
  cases hp:p xs[i]
  ·rw [a8]
   show D1 f k (i+1) s=_
   rw [b10 h k (i+1) (by omega)]
   cases (xs.drop (i+1)).findIdx? p with
   | none=>rfl
   | some j=>simp;omega
  ·simp
theorem b6P {α σ:Type}{xs:List α}(p:α→Bool){s:σ}{f:Nat→σ→Option (σ⊕Int)}(h: ∀i x,xs[i]? =some x→f i s=some (if p x then .inr (i:Int) else .inl s)):
  D1 f xs.length 0 s=some ((xs.findIdx? p).elim (.inl s) fun j=>.inr (j:Int)):=by
 rw [b10 h xs.length 0 (by omega),List.drop_zero]
 cases xs.findIdx? p<;>simp
theorem c4Q {α:Type}(p:α→Bool)(xs:List α):(decide ((0:Int)≤((xs.findIdx? p).elim (-1:Int) fun j=>(j:Int))))=xs.any p:=by
 induction xs with
 | nil=>rfl
 | cons x r ih=>
  rw [List.findIdx?_cons,List.any_cons]
  cases hp:p x
  ·simp only [Bool.false_or,←ih]
   cases r.findIdx? p with
   | none=>rfl
   | some j=>simp;omega
  ·simp
end Go.Fk
namespace Go.Fk
open Go
theorem b3s {α β:Type}{xs:List α}{g:α→List β}{B:Nat}{f:Nat→List β→Option (List β)}(h: ∀i x acc,xs[i]? =some x→(acc++g x).length≤B→f i acc=some (acc++g x)):
  ∀k i acc,i+k=xs.length→(acc++(xs.drop i).flatMap g).length≤B→a0C f k i acc=some (acc++(xs.drop i).flatMap g)
 | 0,i,acc,e,hB=>by rw [a0C,List.drop_of_length_le (by omega)];simp
 | k+1,i,acc,e,hB=>by
  have hi:i<xs.length:=by omega
  rw [List.drop_eq_getElem_cons hi,List.flatMap_cons,←List.append_assoc] at hB ⊢
  rw [a0C,h i xs[i] acc (j8 hi) (by rw [o0] at hB;omega),a8]
  exact b3s h k (i+1) _ (by omega) hB
theorem a7o {α β:Type}{xs:List α}(g:α→List β)(B:Nat){f:Nat→List β→Option (List β)}(h: ∀i x acc,xs[i]? =some x→(acc++g x).length≤B→f i acc=some (acc++g x))(acc:List β)(hB:(acc++xs.flatMap g).length≤B):
  a0C f xs.length 0 acc=some (acc++xs.flatMap g):=by
 have:=b3s h xs.length 0 acc (by omega) (by rwa [List.drop_zero])
 rwa [List.drop_zero] at this
theorem b1X {α β:Type}{xs:List α}{g:α→List β}{B:Nat}{f:List β×Int→Option ((List β×Int)⊕List β)}(h: ∀(i:Nat) x acc,xs[i]? =some x→(acc++g x).length≤B→f (acc,(i:Int))=some (.inl (acc++g x,((i+1:Nat):Int))))
  (h0: ∀acc,f (acc,(xs.length:Int))=some (.inr acc)): ∀k i acc F,i+k=xs.length→k<F→(acc++(xs.drop i).flatMap g).length≤B→y2 f F (acc,(i:Int))=some (acc++(xs.drop i).flatMap g)
 | 0,i,acc,F,e,hF,hB=>by
  obtain⟨F,rfl⟩: ∃G,F=G+1:=⟨F-1,by omega⟩
  rw [y2,show i=xs.length by omega,h0,List.drop_of_length_le (Nat.le_refl _)];simp
 | k+1,i,acc,F,e,hF,hB=>by
  obtain⟨F,rfl⟩: ∃G,F=G+1:=⟨F-1,by omega⟩
  have hi:i<xs.length:=by omega
  rw [List.drop_eq_getElem_cons hi,List.flatMap_cons,←List.append_assoc] at hB ⊢
  rw [y2,h i xs[i] acc (j8 hi) (by rw [o0] at hB;omega),a8]
  exact b1X h h0 k (i+1) _ F (by omega) (by omega) hB
theorem a5W {α β:Type}{xs:List α}(g:α→List β)(B:Nat){f:List β×Int→Option ((List β×Int)⊕List β)}(F:Nat)(hF:xs.length<F)(h: ∀(i:Nat) x acc,xs[i]? =some x→(acc++g x).length≤B→f (acc,(i:Int))=some (.inl (acc++g x,((i+1:Nat):Int))))
  (h0: ∀acc,f (acc,(xs.length:Int))=some (.inr acc))(acc:List β)(hB:(acc++xs.flatMap g).length≤B):y2 f F (acc,(0:Int))=some (acc++xs.flatMap g):=by
 have:=b1X h h0 xs.length 0 acc F (by omega) hF (by rwa [List.drop_zero])
 rwa [List.drop_zero] at this
theorem b0r {α σ:Type}{xs:List α}{g:σ→α→σ}{f:Nat→σ→Option σ}(h: ∀i x s,xs[i]? =some x→f i s=some (g s x)): ∀k i s,i+k=xs.length→a0C f k i s=some ((xs.drop i).foldl g s)
 | 0,i,s,e=>by rw [a0C,List.drop_of_length_le (by omega)];rfl
 | k+1,i,s,e=>by
  have hi:i<xs.length:=by omega
  rw [a0C,h i xs[i] s (j8 hi),List.drop_eq_getElem_cons hi,a8,List.foldl_cons]
  exact b0r h k (i+1) _ (by omega)
theorem a81 {α σ:Type}{xs:List α}(g:σ→α→σ){f:Nat→σ→Option σ}(h: ∀i x s,xs[i]? =some x→f i s=some (g s x))(s:σ):a0C f xs.length 0 s=some (xs.foldl g s):=by
 have:=b0r h xs.length 0 s (by omega)
 rwa [List.drop_zero] at this
theorem Z4 {α β:Type}{g:α→List β}{m:Nat}: ∀(xs:List α),(∀x∈xs,(g x).length≤m)→(xs.flatMap g).length≤xs.length*m
 | [],_=>by simp
 | x::r,h=>by
  have h1:=h x (List.mem_cons_self ..)
  have h2:=Z4 r fun y hy=>h y (List.mem_cons_of_mem _ hy)
  rw [List.flatMap_cons,o0,s6,Nat.add_mul];omega
end Go.Fk
set_option linter.unusedVariables false
set_option maxRecDepth 100000
namespace Go.Fk
open Go
theorem b70 (m n:Nat):((m:Int)).tmod (n:Int)=((m%n:Nat):Int):=by rw [←Int.ofNat_tmod]
theorem a6i (m n:Nat):((m:Int)).tdiv (n:Int)=((m/n:Nat):Int):=by rw [←Int.ofNat_tdiv]
theorem b97 {f:Int×Int→Option ((Int×Int)⊕Int)}(hf:f=fun (s11:Int×Int)=>(cond (!(s11.2==(0:Int))) (Option.bind (a6g s11.1 s11.2) fun x26=>(some (.inl (s11.2,x26)))) (some (.inr s11.1)))): ∀(n m F:Nat),n<F→y2 f F ((m:Int),(n:Int))=some ((Nat.gcd m n:Nat):Int):=by
 intro n
 induction n using Nat.strongRecOn with
 | _ n ih=>
  intro m F hF
  obtain⟨F,rfl⟩: ∃G,F=G+1:=⟨F-1,by omega⟩
  rw [y2]
  by_cases h:n=0
  ·subst h
   rw [hf];simp
  ·have h1:f ((m:Int),(n:Int))=some (.inl ((n:Int),((m%n:Nat):Int))):=by
    rw [hf]
    dsimp only
    rw [beq_eq_false_iff_ne.2 (by omega),Bool.not_false,j4]
    unfold a6g
    rw [if_neg (by omega),a8,b70]
   have hlt:m%n<n:=Nat.mod_lt _ (by omega)
   rw [h1]
   show y2 f F _=_
   rw [ih (m%n) hlt n F (by omega),Nat.gcd_comm n,←Nat.gcd_rec,Nat.gcd_comm]
theorem b6R (F:Nat)(m n:Nat)(hm:m≤1000000000000)(hn:n≤1000000000000)(hF:n<F):a1k F (m:Int) (n:Int)=some ((Nat.gcd m n:Nat):Int):=by
 unfold a1k
 rw [b97 rfl n m F hF,a8,a8]
 have hg:Nat.gcd m n≤1000000000000:=by
  by_cases h:m=0
  ·subst h;rw [Nat.gcd_zero_left];exact hn
  ·exact Nat.le_trans (Nat.gcd_le_left n (by omega)) hm
 rw [C5 ⟨by omega,by omega⟩,if_neg (by omega)]
theorem b7N: ∀(F n m:Nat),n<F→m≤1000000000000→n≤1000000000000→a06 F (m:Int) (n:Int)=some ((Nat.gcd m n:Nat):Int)
 | 0,n,m,h,_,_=>by omega
 | F+1,n,m,h,hm,hn=>by
  rw [a06]
  dsimp only
  rw [c6 (by omega),i6,a8]
  by_cases h0:n=0
  ·subst h0;simp
  ·rw [beq_eq_false_iff_ne.2 (by omega),i6]
   unfold a6g
   have hlt:m%n<n:=Nat.mod_lt _ (by omega)
   rw [if_neg (by omega),a8,b70,b7N F (m%n) n (by omega) (by omega) (by omega),Nat.gcd_comm n,←Nat.gcd_rec,Nat.gcd_comm];rfl
def b2s (a b:Nat):Int:=((a/Nat.gcd a b:Nat):Int)
def b2r (a b:Nat):Int:=((b/Nat.gcd a b:Nat):Int)
theorem b5R {a b:Nat}(hb:0<b):1≤b/Nat.gcd a b:=Nat.div_pos (Nat.gcd_le_right a hb) (Nat.gcd_pos_of_pos_right a hb)
theorem c3e {a b:Nat}(hb:0<b):Nat.gcd (a/Nat.gcd a b) (b/Nat.gcd a b)=1:=Nat.gcd_div_gcd_div_gcd_of_pos_right hb
theorem b12 (F a b:Nat)(ha:a≤1000000000)(hb:0<b∧b≤1000000000)(hF:1000000000<F):a3e F ⟨b2s a b,b2r a b⟩=some true:=by
 have h1:a/Nat.gcd a b≤a:=Nat.div_le_self _ _
 have h2:b/Nat.gcd a b≤b:=Nat.div_le_self _ _
 have h3:=b5R (a:=a) hb.1
 have h5:=c3e (a:=a) hb.1
 unfold a3e b2s b2r
 dsimp only
 generalize a/Nat.gcd a b=x at *
 generalize b/Nat.gcd a b=y at *
 rw [O8,b8 (by omega),b8 (by omega),a8,u5,j4,O8,b8 (by omega),b8 (by omega),a8,u5,j4,b6R F _ _ (by omega) (by omega) (by omega),a8,h5];rfl
theorem c3p (F a b:Nat)(ha:a≤1000000000)(hb:0<b∧b≤1000000000)(hF:1000000000<F):a4j F (a:Int) (b:Int)=some (⟨b2s a b,b2r a b⟩,true):=by
 have h1:a/Nat.gcd a b≤a:=Nat.div_le_self _ _
 have h2:b/Nat.gcd a b≤b:=Nat.div_le_self _ _
 have hg:=Nat.gcd_pos_of_pos_right a hb.1
 unfold a4j a43
 rw [O8,b8 (by omega),b8 (by omega),a8,u5,l7,i6,O8,b8 (by omega),b8 (by omega),a8,u5,l7,i6,a8,beq_eq_false_iff_ne.2 (by omega),i6,c6 (by omega),i6,a8]
 dsimp only
 rw [b6R F a b (by omega) (by omega) (by omega),a8]
 unfold a3s
 rw [if_neg (by omega),a8,if_neg (by omega),a8,a6i,a6i]
 have:=b12 F a b ha hb hF
 unfold b2s b2r at this ⊢
 generalize a/Nat.gcd a b=x at *
 generalize b/Nat.gcd a b=y at *
 rw [C5 ⟨by omega,by omega⟩,C5 ⟨by omega,by omega⟩,this];rfl
theorem c3q (F a b:Nat)(ha:a≤1000000000)(hb:0<b∧b≤1000000000)(hF:1000000000<F):a2J F (a:Int) (b:Int)=some ⟨b2s a b,b2r a b⟩:=by
 have h1:a/Nat.gcd a b≤a:=Nat.div_le_self _ _
 have h2:b/Nat.gcd a b≤b:=Nat.div_le_self _ _
 have hg:=Nat.gcd_pos_of_pos_right a hb.1
 unfold a2J
 rw [c6 (by omega),i6,a8]
 dsimp only
 rw [b7N F b a (by omega) (by omega) (by omega),a8]
 unfold a3s
 rw [if_neg (by omega),a8,if_neg (by omega),a8,a6i,a6i]
 unfold b2s b2r
 generalize a/Nat.gcd a b=x at *
 generalize b/Nat.gcd a b=y at *
 rw [C5 ⟨by omega,by omega⟩,C5 ⟨by omega,by omega⟩]
def a9z (a b:Nat):Nat:=a/Nat.gcd a b*1000/(b/Nat.gcd a b)
theorem a9V (F a b:Nat)(ha:a≤1000000000)(hb:0<b∧b≤1000000000)(hF:1000000000<F):X9 F ⟨b2s a b,b2r a b⟩ 1000=some ((a9z a b:Nat):Int):=by
 have h1:a/Nat.gcd a b≤a:=Nat.div_le_self _ _
 have h3:=b5R (a:=a) hb.1
 have h4:a/Nat.gcd a b*1000/(b/Nat.gcd a b)≤a/Nat.gcd a b*1000:=Nat.div_le_self _ _
 unfold X9
 rw [b12 F a b ha hb hF,a8,l7,i6,O8,a8,a8]
 unfold b2s b2r a9z
 dsimp only
 generalize a/Nat.gcd a b=x at *
 generalize b/Nat.gcd a b=y at *
 have e:(x:Int)*1000=((x*1000:Nat):Int):=by push_cast;rfl
 rw [e,C5 ⟨by omega,by omega⟩]
 rw [b8 (show (1:Int)≤1000 by omega),b8 (show (1000:Int)≤1000 by omega),u5,l7,i6,b8 (by omega),j4]
 unfold a3s
 generalize hz:x*1000/y=z at *
 rw [if_neg (by omega),a8,a6i,hz,C5 ⟨by omega,by omega⟩]
theorem b8H (a b:Nat)(ha:a≤1000000000)(hb:0<b∧b≤1000000000):(Option.bind (a3s (z8 (b2s a b*(1000:Int))) (b2r a b)) fun x225=>(some x225))=some ((a9z a b:Nat):Int):=by
 have h1:a/Nat.gcd a b≤a:=Nat.div_le_self _ _
 have h3:=b5R (a:=a) hb.1
 have h4:a/Nat.gcd a b*1000/(b/Nat.gcd a b)≤a/Nat.gcd a b*1000:=Nat.div_le_self _ _
 unfold b2s b2r a9z
 generalize a/Nat.gcd a b=x at *
 generalize b/Nat.gcd a b=y at *
 have e:(x:Int)*1000=((x*1000:Nat):Int):=by push_cast;rfl
 rw [e,C5 ⟨by omega,by omega⟩]
 unfold a3s
 generalize hz:x*1000/y=z at *
 rw [if_neg (by omega),a8,a6i,hz,C5 ⟨by omega,by omega⟩]
def a2B:Nat→Nat→Nat→Nat
 | 0,_,_=>0
 | k+1,df,docs=>if 2*df≤docs then a2B k (2*df) docs+1 else 0
theorem b0U: ∀k df docs,a2B k df docs≤k
 | 0,_,_=>Nat.le_refl _
 | k+1,df,docs=>by
  have:=b0U k (2*df) docs
  unfold a2B
  split<;>omega
theorem b00 {f:Int×Int→Option ((Int×Int)⊕Int)}(docs:Nat)(hd:docs≤100)(hf:f=fun (s11:Int×Int)=>(Option.bind ((cond (decide ((0:Int)<s11.1)) (some (decide ((z8 (s11.1*(2:Int)))≤(docs:Int)))) (some false)):Option Bool) fun o24=>(cond o24 (some (.inl ((z8 (s11.1*(2:Int))),(z8 (s11.2+(1:Int)))))) (some (.inr s11.2))))):
  ∀(k df n F:Nat),0<df→docs<df*2 ^ k→k<F→n+k≤1000→df≤1000→y2 f F ((df:Int),(n:Int))=some ((n+a2B k df docs:Nat):Int)
 | 0,df,n,F,h0,hk,hF,hn,hdf=>by
  obtain⟨F,rfl⟩: ∃G,F=G+1:=⟨F-1,by omega⟩
  have h1:f ((df:Int),(n:Int))=some (.inr (n:Int)):=by
   rw [hf]
   dsimp only
   rw [b8 (by omega),j4,C5 ⟨by omega,by omega⟩,c6 (by simp at hk;omega)];rfl
  rw [y2,h1];rfl
 | k+1,df,n,F,h0,hk,hF,hn,hdf=>by
  obtain⟨F,rfl⟩: ∃G,F=G+1:=⟨F-1,by omega⟩
  rw [y2]
  by_cases h:2*df≤docs
  ·have h1:f ((df:Int),(n:Int))=some (.inl (((2*df:Nat):Int),((n+1:Nat):Int))):=by
    rw [hf]
    dsimp only
    rw [b8 (by omega),j4,C5 ⟨by omega,by omega⟩,b8 (by omega),y5 (by omega),a8,j4]
    congr 3;push_cast;omega
   rw [h1]
   show y2 f F _=_
   rw [b00 docs hd hf k (2*df) (n+1) F (by omega) (by rw [Nat.pow_succ] at hk;rw [Nat.mul_comm 2 df,Nat.mul_assoc,Nat.mul_comm 2];exact hk) (by omega) (by omega) (by omega)]
   rw [a2B,if_pos h]
   congr 1;omega
  ·have h1:f ((df:Int),(n:Int))=some (.inr (n:Int)):=by
    rw [hf]
    dsimp only
    rw [b8 (by omega),j4,C5 ⟨by omega,by omega⟩,c6 (by omega)];rfl
   rw [h1,a2B,if_neg h];rfl
theorem c0X (F df docs:Nat)(h0:0<df)(hd:df≤docs)(h16:docs≤16)(hF:100<F):a2M F (df:Int) (docs:Int)=some ((a2B 5 df docs:Nat):Int):=by
 unfold a2M
 have:=b00 docs (by omega) rfl 5 df 0 F h0 (by omega) (by omega) (by omega) (by omega)
 rw [Nat.zero_add] at this
 show (Option.bind (Option.bind (y2 _ F ((df:Int),((0:Nat):Int))) _) _)=_
 rw [this];rfl
theorem b57 (df n:Nat)(hn:n≤20)(hdf:df≤16):c0K (df:Int) (z8 ((n:Int)+1))=some ((df*2 ^ n*2:Nat):Int):=by
 have hp:2 ^ n≤2 ^ 20:=Nat.pow_le_pow_right (by omega) hn
 have hq:df*2 ^ n≤16*2 ^ 20:=Nat.mul_le_mul hdf hp
 rw [y5 (by omega)]
 unfold c0K
 rw [if_neg (by omega),Int.toNat_natCast,Nat.min_eq_left (by omega),Int.pow_succ,←Int.mul_assoc]
 have e:(df:Int)*2 ^ n*2=((df*2 ^ n*2:Nat):Int):=by push_cast;rfl
 rw [e,C5 ⟨by omega,by omega⟩]
theorem b0u {f:Int→Option (Int⊕Int)}(df docs:Nat)(hd:docs≤16)(hdf:df≤16)(hf:f=fun (s75:Int)=>(Option.bind (c0K (df:Int) (z8 (s75+(1:Int)))) fun x87=>(cond (decide (x87≤(docs:Int))) (some (.inl (z8 (s75+(1:Int))))) (some (.inr s75))))):
  ∀(k n F:Nat),docs<df*2 ^ n*2 ^ k→k<F→n+k≤10→y2 f F (n:Int)=some ((n+a2B k (df*2 ^ n) docs:Nat):Int)
 | 0,n,F,hk,hF,hn=>by
  obtain⟨F,rfl⟩: ∃G,F=G+1:=⟨F-1,by omega⟩
  rw [Nat.pow_zero,Nat.mul_one] at hk
  have h1:f (n:Int)=some (.inr (n:Int)):=by
   rw [hf]
   dsimp only
   rw [b57 df n (by omega) hdf,a8,c6 (by omega)];rfl
  rw [y2,h1];rfl
 | k+1,n,F,hk,hF,hn=>by
  obtain⟨F,rfl⟩: ∃G,F=G+1:=⟨F-1,by omega⟩
  rw [y2]
  by_cases h:2*(df*2 ^ n)≤docs
  ·have h1:f (n:Int)=some (.inl ((n+1:Nat):Int)):=by
    rw [hf]
    dsimp only
    rw [b57 df n (by omega) hdf,a8,b8 (by omega),y5 (by omega)];rfl
   have e:df*2 ^ (n+1)=2*(df*2 ^ n):=by rw [Nat.pow_succ,←Nat.mul_assoc,Nat.mul_comm 2]
   rw [h1]
   show y2 f F _=_
   rw [b0u df docs hd hdf hf k (n+1) F (by rw [e,Nat.mul_comm 2,Nat.mul_assoc,←Nat.pow_succ'];exact hk) (by omega) (by omega),e]
   rw [a2B,if_pos h]
   congr 1;omega
  ·have h1:f (n:Int)=some (.inr (n:Int)):=by
    rw [hf]
    dsimp only
    rw [b57 df n (by omega) hdf,a8,c6 (by omega)];rfl
   rw [h1,a2B,if_neg h];rfl
def upN (tf docs df:Nat):Nat:=22*tf*(a2B 5 df docs+1)
def a7C (tf long total docs:Nat):Nat:=10*tf+3+9*long*docs/total
structure a2z (tf long total docs df:Nat):Prop where
 h1:1≤tf∧tf≤80
 h2:tf≤long∧long≤80
 h3:long≤total∧total≤1280
 h4:1≤docs∧docs≤16
 h5:1≤df∧df≤docs
theorem b4q {tf long total docs df:Nat}(h:a2z tf long total docs df):upN tf docs df≤1000000:=by
 have h1:=b0U 5 df docs
 have h2:=h.h1
 unfold upN
 calc 22*tf*(a2B 5 df docs+1)≤22*80*6:=Nat.mul_le_mul (by omega) (by omega)
  _≤1000000:=by decide
theorem a7m {tf long total docs df:Nat}(h:a2z tf long total docs df):0<a7C tf long total docs∧a7C tf long total docs≤1000000:=by
 have h2:=h.h1
 have h3:9*long*docs/total≤9*long*docs:=Nat.div_le_self _ _
 have h4:9*long*docs≤9*80*16:=Nat.mul_le_mul (by have:=h.h2;omega) (by have:=h.h4;omega)
 unfold a7C
 generalize 9*long*docs/total=q at *
 omega
theorem a5i {a b:Nat}(h:a*b≤1000000000000000):z8 ((a:Int)*(b:Int))=((a*b:Nat):Int):=by
 have e:(a:Int)*(b:Int)=((a*b:Nat):Int):=by push_cast;rfl
 rw [e,b3g (by omega)]
theorem a5N {a b:Nat}(h:a+b≤1000000000000000):z8 ((a:Int)+(b:Int))=((a+b:Nat):Int):=by
 have e:(a:Int)+(b:Int)=((a+b:Nat):Int):=by push_cast;rfl
 rw [e,b3g (by omega)]
theorem b9o {a b:Nat}(hb:0<b)(h:a≤1000000000000000):a3s (a:Int) (b:Int)=some ((a/b:Nat):Int):=by
 have:a/b≤a:=Nat.div_le_self _ _
 unfold a3s
 rw [if_neg (by omega),a6i,b3g (by omega)]
theorem b1n (F tf long total docs df:Nat)(h:a2z tf long total docs df)(hF:1000000000<F):U8 F (tf:Int) (long:Int) (total:Int) (docs:Int) (df:Int)=some (⟨b2s (upN tf docs df) (a7C tf long total docs),b2r (upN tf docs df) (a7C tf long total docs)⟩,true):=by
 obtain⟨⟨a1,a2⟩,⟨b1,b2⟩,⟨c1,c2⟩,⟨d1,d2⟩,⟨e1,e2⟩⟩:=h
 have hh:a2z tf long total docs df:=⟨⟨a1,a2⟩,⟨b1,b2⟩,⟨c1,c2⟩,⟨d1,d2⟩,⟨e1,e2⟩⟩
 have hu:=b4q hh
 have hd:=a7m hh
 have hr:=b0U 5 df docs
 unfold U8
 simp only [O8,a8]
 rw [b8 (show (1:Int)≤(tf:Int) by omega),b8 (show (tf:Int)≤80 by omega),b8 (show (tf:Int)≤(long:Int) by omega),b8 (show (long:Int)≤80 by omega),b8 (show (1:Int)≤(docs:Int) by omega),b8 (show (docs:Int)≤16 by omega),b8 (show (1:Int)≤(df:Int) by omega),b8 (show (df:Int)≤(docs:Int) by omega),b8 (show (long:Int)≤(total:Int) by omega),b8 (show (total:Int)≤1280 by omega)]
 simp only [u5,l7,i6,a8]
 have hrare:=b0u df docs d2 (by omega) rfl 5 0 F (by simp;omega) (by omega) (by omega)
 rw [Nat.zero_add,Nat.pow_zero,Nat.mul_one] at hrare
 rw [show ((0:Int))=((0:Nat):Int) from rfl,hrare,a8]
 have hm4:9*long*docs≤9*80*16:=Nat.mul_le_mul (by omega) (by omega)
 have hq:9*long*docs/total≤9*long*docs:=Nat.div_le_self _ _
 have k1:z8 ((z8 ((9:Int)*(long:Int)))*(docs:Int))=((9*long*docs:Nat):Int):=by
  rw [show z8 ((9:Int)*(long:Int))=((9*long:Nat):Int) from a5i (a:=9) (by omega),a5i (by omega)]
 have hu2:22*tf*(a2B 5 df docs+1)≤1000000:=hu
 have k2:z8 ((z8 ((22:Int)*(tf:Int)))*(z8 (((a2B 5 df docs:Nat):Int)+1)))=((upN tf docs df:Nat):Int):=by
  rw [show z8 ((22:Int)*(tf:Int))=((22*tf:Nat):Int) from a5i (a:=22) (by omega),y5 (by omega),a5i (by omega)];rfl
 have k3:z8 ((z8 ((z8 ((10:Int)*(tf:Int)))+(3:Int)))+((9*long*docs/total:Nat):Int))=((a7C tf long total docs:Nat):Int):=by
  rw [show z8 ((10:Int)*(tf:Int))=((10*tf:Nat):Int) from a5i (a:=10) (by omega),show z8 (((10*tf:Nat):Int)+3)=((10*tf+3:Nat):Int) from a5N (b:=3) (by omega),a5N (by omega)];rfl
 rw [k1,b9o (by omega) (by omega),a8,a8,k2,k3,c3p F _ _ (by omega) ⟨hd.1,by omega⟩ hF];rfl
theorem c0Y (F tf long total docs df:Nat)(h:a2z tf long total docs df)(hF:1000000000<F):a2N F (tf:Int) (long:Int) (total:Int) (docs:Int) (df:Int)=some ⟨b2s (upN tf docs df) (a7C tf long total docs),b2r (upN tf docs df) (a7C tf long total docs)⟩:=by
 obtain⟨⟨a1,a2⟩,⟨b1,b2⟩,⟨c1,c2⟩,⟨d1,d2⟩,⟨e1,e2⟩⟩:=h
 have hh:a2z tf long total docs df:=⟨⟨a1,a2⟩,⟨b1,b2⟩,⟨c1,c2⟩,⟨d1,d2⟩,⟨e1,e2⟩⟩
 have hu:=b4q hh
 have hd:=a7m hh
 have hr:=b0U 5 df docs
 unfold a2N
 have hm4:long*docs*9≤80*16*9:=Nat.mul_le_mul_right _ (Nat.mul_le_mul (by omega) (by omega))
 have hm5:long*docs≤80*16:=Nat.mul_le_mul (by omega) (by omega)
 have e3:long*docs*9=9*long*docs:=by rw [Nat.mul_comm,Nat.mul_assoc]
 have hq:long*docs*9/total≤long*docs*9:=Nat.div_le_self _ _
 have k1:z8 ((z8 ((long:Int)*(docs:Int)))*(9:Int))=((long*docs*9:Nat):Int):=by
  rw [a5i (by omega)];exact a5i (b:=9) (by omega)
 have e7:22*tf*(a2B 5 df docs+1)=(1+a2B 5 df docs)*22*tf:=by rw [Nat.mul_comm (22*tf),Nat.add_comm,Nat.mul_assoc]
 have hu2:(1+a2B 5 df docs)*22*tf≤1000000:=by rw [←e7];exact hu
 have k2:z8 ((z8 ((z8 ((1:Int)+((a2B 5 df docs:Nat):Int)))*(22:Int)))*(tf:Int))=((upN tf docs df:Nat):Int):=by
  rw [show z8 ((1:Int)+((a2B 5 df docs:Nat):Int))=((1+a2B 5 df docs:Nat):Int) from a5N (a:=1) (by omega),show z8 (((1+a2B 5 df docs:Nat):Int)*22)=(((1+a2B 5 df docs)*22:Nat):Int) from a5i (b:=22) (by omega),a5i (by omega)]
  unfold upN;rw [e7]
 have k3:z8 ((z8 ((z8 ((10:Int)*(tf:Int)))+(3:Int)))+((long*docs*9/total:Nat):Int))=((a7C tf long total docs:Nat):Int):=by
  rw [e3];rw [e3] at hq
  rw [show z8 ((10:Int)*(tf:Int))=((10*tf:Nat):Int) from a5i (a:=10) (by omega),show z8 (((10*tf:Nat):Int)+3)=((10*tf+3:Nat):Int) from a5N (b:=3) (by omega),a5N (by omega)];rfl
 rw [b8 (by omega),j4,k1,b9o (by omega) (by omega),a8,a8,c0X F df docs e1 e2 d2 (by omega),a8,k2,k3,c3q F _ _ (by omega) ⟨hd.1,by omega⟩ hF];rfl
def b54 (tf long total docs df:Nat):Nat:=a9z (upN tf docs df) (a7C tf long total docs)
end Go.Fk
namespace Go.Fk
open Go
theorem b72 {a b:Int}(ha:0≤a)(ha':a≤9223372036854775807)(hb:0≤b)(hb':b≤9223372036854775807):0≤c1j a b:=by
 unfold c1j
 obtain⟨x,rfl⟩:=Int.eq_ofNat_of_zero_le ha
 obtain⟨y,rfl⟩:=Int.eq_ofNat_of_zero_le hb
 have hx:x ^^^ y<2 ^ 63:=Nat.xor_lt_two_pow (by omega) (by omega)
 have e:(BitVec.ofInt 64 (x:Int) ^^^ BitVec.ofInt 64 (y:Int)).toNat=x ^^^ y:=by
  rw [BitVec.toNat_xor]
  simp only [BitVec.ofInt_natCast,BitVec.toNat_ofNat]
  rw [Nat.mod_eq_of_lt (by omega),Nat.mod_eq_of_lt (by omega)]
 rw [e,C5 ⟨by omega,by omega⟩]
 omega
theorem b21 {α:Type}{xs:List α}{i:Int}(h0:0≤i)(h:i<xs.length): ∃x,v8 xs i=some x:=by
 unfold v8
 rw [if_pos h0]
 exact⟨_,j8 (by omega)⟩
def c2K (r:z7):Prop:=r.b_.length≤2000∧0≤r.p_∧r.p_≤1000000000
theorem O3 (F:Nat)(r:z7)(n:Int)(hr:c2K r): ∃x,z2 F r n=some (x,⟨r.b_,r.p_+1⟩)∧0≤x∧(1≤n→x<n):=by
 obtain⟨b,p⟩:=r
 obtain⟨hb,h0,h1⟩:=hr
 simp only at hb h0 h1
 unfold z2
 have e1:z8 (p+1)=p+1:=C5 ⟨by omega,by omega⟩
 have e2:z8 (p+1-1)=p:=by rw [C5 ⟨by omega,by omega⟩];omega
 dsimp only
 rw [e1,e2]
 by_cases hn:n<1
 ·rw [b8 hn,j4,a8,j4]
  exact⟨0,rfl,Int.le_refl _,fun h=>by omega⟩
 ·rw [c6 hn,i6,a8]
  cases b with
  | nil=>
   rw [show ((([]:List UInt8).length:Int)==(0:Int))=true from rfl,j4]
   exact⟨0,rfl,Int.le_refl _,fun h=>by omega⟩
  | cons c b=>
   have hl:(0:Int)<((c::b).length:Int):=by rw [s6];omega
   generalize (c::b)=b at *
   rw [show (((b.length:Int))==(0:Int))=false by rw [beq_eq_false_iff_ne];omega,i6]
   have hrem: ∀x:Int,0≤x→∃y,a6g x n=some y∧0≤y∧y<n:=fun x hx=>by
    refine⟨x.tmod n,by rw [a6g,if_neg (by omega)],Int.tmod_nonneg _ hx,Int.tmod_lt_of_pos _ (by omega)⟩
   have hrb: ∀x:Int,0≤x→∃y,a6g x b.length=some y∧0≤y∧y<b.length:=fun x hx=>by
    refine⟨x.tmod b.length,by rw [a6g,if_neg (by omega)],Int.tmod_nonneg _ hx,Int.tmod_lt_of_pos _ (by omega)⟩
   by_cases hp:p<b.length
   ·rw [b8 hp,j4]
    obtain⟨x,hx⟩:=b21 h0 hp
    obtain⟨y,hy,y0,y1⟩:=hrem (x.toNat:Int) (by omega)
    rw [hx,a8,hy,a8]
    exact⟨y,rfl,y0,fun _=>y1⟩
   ·rw [c6 hp,i6]
    obtain⟨i,hi,i0,i1⟩:=hrb p h0
    obtain⟨x,hx⟩:=b21 i0 i1
    have e7:z8 (p*7)=p*7:=C5 ⟨by omega,by omega⟩
    have e8:z8 (p*7+3)=p*7+3:=C5 ⟨by omega,by omega⟩
    obtain⟨j,hj,j0,j1⟩:=hrb (p*7+3) (by omega)
    obtain⟨y,hy⟩:=b21 j0 j1
    have hq: ∃q,a3s p b.length=some q∧0≤q∧q≤p:=by
     have q0:0≤p.tdiv b.length:=Int.tdiv_nonneg h0 (by omega)
     have q1:p.tdiv b.length≤p:=by rw [Int.tdiv_eq_ediv_of_nonneg h0];exact Int.ediv_le_self _ h0
     exact⟨p.tdiv b.length,by rw [a3s,if_neg (by omega),C5 ⟨by omega,by omega⟩],q0,q1⟩
    obtain⟨q,hq,q0,q1⟩:=hq
    have bx:=x.toNat_lt
    have by':=y.toNat_lt
    have f1:z8 ((x.toNat:Int)*131)=(x.toNat:Int)*131:=C5 ⟨by omega,by omega⟩
    have f2:z8 ((y.toNat:Int)*1117)=(y.toNat:Int)*1117:=C5 ⟨by omega,by omega⟩
    have f3:z8 (p*29)=p*29:=C5 ⟨by omega,by omega⟩
    have f4:z8 (q*53)=q*53:=C5 ⟨by omega,by omega⟩
    have f5:z8 ((x.toNat:Int)*131+(y.toNat:Int)*1117)=(x.toNat:Int)*131+(y.toNat:Int)*1117:=C5 ⟨by omega,by omega⟩
    have f6:z8 ((x.toNat:Int)*131+(y.toNat:Int)*1117+p*29)=(x.toNat:Int)*131+(y.toNat:Int)*1117+p*29:=C5 ⟨by omega,by omega⟩
    have f7:z8 ((x.toNat:Int)*131+(y.toNat:Int)*1117+p*29+q*53)=(x.toNat:Int)*131+(y.toNat:Int)*1117+p*29+q*53:=C5 ⟨by omega,by omega⟩
    rw [hi,a8,hx,a8,e7,e8,hj,a8,hy,a8,hq,a8,f1,f2,f3,f4,f5,f6,f7]
    generalize hz:(x.toNat:Int)*131+(y.toNat:Int)*1117+p*29+q*53=z
    have z0:0≤z:=by omega
    have z1:z≤1000000000000:=by omega
    have hd:a3s z 64=some (z/64):=by
     rw [a3s,if_neg (by decide),Int.tdiv_eq_ediv_of_nonneg z0,C5 ⟨by omega,by omega⟩]
    rw [a8,hd,a8]
    obtain⟨y,hy,y0,y1⟩:=hrem (c1j z (z/64)) (b72 z0 (by omega) (by omega) (by omega))
    rw [hy,a8]
    exact⟨y,rfl,y0,fun _=>y1⟩
theorem b0Q (F:Nat)(code:List UInt8): ∃r,T3 F code=some r∧r.b_.length≤2000∧r.p_=0:=by
 unfold T3
 by_cases h:(2000:Int)<(code.length:Int)
 ·rw [b8 h,j4]
  unfold a1G
  rw [if_pos ⟨by decide,by decide,by omega⟩]
  refine⟨_,rfl,?_,rfl⟩
  simp
  omega
 ·rw [c6 h,i6]
  exact⟨_,rfl,by simp only;omega,rfl⟩
end Go.Fk
namespace Go.Fk
open Go
theorem a8q (F:Nat)(r:z7)(l:List r4)(hr:c2K r)(hl:l≠[]): ∃s∈l,I1 F r l=some (s,⟨r.b_,r.p_+1⟩):=by
 unfold I1
 have hpos:0<l.length:=List.length_pos_iff.2 hl
 obtain⟨x,hx,x0,x1⟩:=O3 F r (l.length:Int) hr
 have x1:=x1 (by omega)
 rw [hx,a8]
 unfold v8
 rw [if_pos x0,j8 (show x.toNat<l.length by omega)]
 exact⟨_,List.getElem_mem _,rfl⟩
end Go.Fk
namespace Go.Fk
open Go
theorem b8r (F:Nat)(r:z7)(l:List Int)(hr:c2K r)(hl:l≠[]): ∃s∈l,V0 F r l=some (s,⟨r.b_,r.p_+1⟩):=by
 unfold V0
 have hpos:0<l.length:=List.length_pos_iff.2 hl
 obtain⟨x,hx,x0,x1⟩:=O3 F r (l.length:Int) hr
 have x1:=x1 (by omega)
 rw [hx,a8]
 unfold v8
 rw [if_pos x0,j8 (show x.toNat<l.length by omega)]
 exact⟨_,List.getElem_mem _,rfl⟩
end Go.Fk
namespace Go.Fk
open Go
theorem c44 (F:Nat)(r:z7)(hr:c2K r): ∃s,a3M F r=some (s,⟨r.b_,r.p_+1⟩)∧s.length≤17:=by
 unfold a3M
 obtain⟨s,hm,hs⟩:=a8q F r (l:=([([99,97,116]:r4),([67,97,116,115]:r4),([100,111,103]:r4),([100,111,103,115]:r4),([114,117,110]:r4),([82,85,78,78,73,78,71]:r4),([116,104,101]:r4),([114,101,100]:r4),([98,105,103]:r4),([110,101,119,32,121,111,114,107]:r4),([78,101,119,32,32,89,111,114,107]:r4),([110,121]:r4),([102,111,120]:r4),([112,97,115,115,101,100]:r4),([120,49]:r4),([97,118,101,114,121,118,101,114,121,108,111,110,103,119,111,114,100]:r4)]:List r4)) hr (by simp)
 rw [hs]
 exact⟨s,rfl,(by decide : ∀s∈([([99,97,116]:r4),([67,97,116,115]:r4),([100,111,103]:r4),([100,111,103,115]:r4),([114,117,110]:r4),([82,85,78,78,73,78,71]:r4),([116,104,101]:r4),([114,101,100]:r4),([98,105,103]:r4),([110,101,119,32,121,111,114,107]:r4),([78,101,119,32,32,89,111,114,107]:r4),([110,121]:r4),([102,111,120]:r4),([112,97,115,115,101,100]:r4),([120,49]:r4),([97,118,101,114,121,118,101,114,121,108,111,110,103,119,111,114,100]:r4)]:List r4),s.length≤17) s hm⟩
theorem b9J (F:Nat)(r:z7)(hr:r.b_.length≤2000∧0≤r.p_∧r.p_≤1000000)(hF:20≤F): ∃s p,W5 F r=some (s,⟨r.b_,p⟩)∧r.p_≤p∧p≤r.p_+100∧s.length≤200:=by
 obtain⟨h1,h2,h3⟩:=hr
 unfold W5
 obtain⟨n,hn,n0,n1⟩:=O3 F r 9 ⟨h1,h2,by omega⟩
 have n1:=n1 (by decide)
 rw [hn,a8]
 simp only
 generalize hf:(fun (s34:r4×Int×z7)=>_:r4×Int×z7→Option ((r4×Int×z7)⊕(r4×z7)))=f
 have key: ∀(k:Nat) (s:r4) (p:Int) (F:Nat),k+1≤F→0≤p→p+2*k≤2000000→s.length+19*k≤19*8→k≤8→∃s' p',y2 f F (s,(k:Int),⟨r.b_,p⟩)=some (s',⟨r.b_,p'⟩)∧p≤p'∧p'≤p+2*k∧s'.length≤s.length+19*k:=by
  intro k
  induction k with
  | zero=>
   intro s p F hF _ _ _ _
   obtain⟨F,rfl⟩: ∃G,F=G+1:=⟨F-1,by omega⟩
   rw [y2]
   subst hf
   exact⟨s,p,rfl,by omega,by omega,by omega⟩
  | succ k ih=>
   intro s p F' hF' p0 p1 hs hk
   obtain⟨F',rfl⟩: ∃G,F'=G+1:=⟨F'-1,by omega⟩
   obtain⟨a,ha,hal⟩:=c44 F ⟨r.b_,p⟩ ⟨h1,p0,by simp only;omega⟩
   obtain⟨b,hbm,hb⟩:=a8q F ⟨r.b_,p+1⟩ ([([32]:r4),([32]:r4),([44,32]:r4),([45]:r4),([46,32]:r4)]:List r4) ⟨h1,by simp only;omega,by simp only;omega⟩ (by simp)
   have hbl:b.length≤2:=(by decide : ∀s∈([([32]:r4),([32]:r4),([44,32]:r4),([45]:r4),([46,32]:r4)]:List r4),s.length≤2) b hbm
   have hstep:f (s,((k+1:Nat):Int),⟨r.b_,p⟩)=some (.inl (s++a++b,(k:Int),⟨r.b_,p+1+1⟩)):=by
    rw [←hf]
    simp only
    rw [b8 (by omega),j4,ha,a8]
    simp only
    have hm:1000≤maxLen:=by decide
    have c1:b0h s a=some (s++a):=by rw [b0h,if_pos (by omega)]
    have c2:b0h (s++a) b=some (s++a++b):=by rw [b0h,if_pos (by rw [o0];omega)]
    have c3:z8 (((k+1:Nat):Int)-1)=(k:Int):=by rw [C5 ⟨by omega,by omega⟩];omega
    rw [c1,a8,hb,a8]
    simp only
    rw [c2,a8,c3]
   rw [y2,hstep]
   simp only [a8,Sum.elim_inl]
   obtain⟨s',p',hw,a1,a2,a3⟩:=ih (s++a++b) (p+1+1) F' (by omega) (by omega) (by omega) (by simp only [o0];omega) (by omega)
   refine⟨s',p',hw,by omega,by omega,?_⟩
   simp only [o0] at a3
   omega
 obtain⟨k,rfl⟩:=Int.eq_ofNat_of_zero_le n0
 obtain⟨s',p',hw,a1,a2,a3⟩:=key k [] (r.p_+1) F (by omega) (by omega) (by omega) (by simp only [List.length_nil];omega) (by omega)
 rw [hw]
 exact⟨s',p',rfl,by omega,by omega,by simp only [List.length_nil] at a3;omega⟩
end Go.Fk
namespace Go.Fk
open Go
def a8T (b:UInt8):Bool:= !(decide (b<32)||decide (126<b))
def a2n (s:r4):Bool:=s.all a8T&&decide ((s.length:Int)≤160)
theorem b1o (F:Nat)(s:r4):a04 F s=some (a2n s):=by
 unfold a04 a2n
 rw [a0s (p:=a8T) (xs:=s) (fun i x hx=>?_) s.length 0 (by omega),List.drop_zero]
 ·cases s.all a8T<;>rfl
 ·rw [n8,hx,a8]
  unfold a8T
  cases decide (x<(32:UInt8))
  ·rw [i6,a8,a8]
   cases decide ((126:UInt8)<x)<;>rfl
  ·rfl
theorem c0Z (F:Nat)(s:r4)(hF:s.length<F)(hl:s.length≤2000000):a3J F s=some (a2n s):=by
 unfold a3J a2n
 have key:=fun f h h0=>a6P (p:=a8T) (xs:=s) (f:=f) h h0 s.length 0 F (by omega) hF
 rw [show (0:Int)=((0:Nat):Int) from rfl,key _ (fun i x hx=>?_) ?_,List.drop_zero]
 ·cases s.all a8T<;>rfl
 ·rw [c6 (by omega)];rfl
 ·have hi:=(i4.1 hx).1
  rw [b8 (by omega),j4,n8,hx,a8,y5 (by omega)]
  unfold a8T
  cases decide (x<(32:UInt8))
  ·rw [i6,a8,a8]
   cases decide ((126:UInt8)<x)<;>rfl
  ·rfl
def a5G (f:Q6):Bool:=D0 f.Name&&a2n f.Text
def a5b (f g:Q6):Bool:=D2 f.Name g.Name
def a7j (a:a5j):Bool:=D0 a.Name&&(decide (0≤a.Num)&&decide (a.Num≤999999999))
def a74 (f g:a5j):Bool:=D2 f.Name g.Name
def a5q (d:A1):Bool:=(a3x a5G a5b d.Fields&&a3x a7j a74 d.Nums)&&((decide (1≤d.Id)&&decide (d.Id≤9999))&&(decide ((d.Fields.length:Int)≤3)&&decide ((d.Nums.length:Int)≤3)))
theorem b1g (a b:Int):decide (a<b)= !decide (b≤a):=by
 by_cases h:a<b
 ·rw [b8 h,c6 (by omega)];rfl
 ·rw [c6 h,b8 (by omega)];rfl
theorem b3z (F:Nat)(d:A1):a1L F d=some (a5q d):=by
 unfold a1L a5q
 rw [O8,a8]
 cases hid:(decide (1≤d.Id)&&decide (d.Id≤9999)) with
 | false=>rw [Bool.false_and,Bool.and_false];rfl
 | true=>
  rw [l7,i6,b1g 3 (d.Fields.length:Int),b1g 3 (d.Nums.length:Int)]
  by_cases hf:(d.Fields.length:Int)≤3
  ·by_cases hn:(d.Nums.length:Int)≤3
   ·rw [b8 hf,b8 hn]
    simp only [l7,i6,a8]
    rw [a63 (ok:=a5G) (lt:=a5b) (xs:=d.Fields) (fun i x hx=>?_)]
    ·cases a3x a5G a5b d.Fields with
     | false=>rfl
     | true=>
      simp only [if_true,a8,Sum.elim_inl]
      rw [a63 (ok:=a7j) (lt:=a74) (xs:=d.Nums) (fun i x hx=>?_)]
      ·cases a3x a7j a74 d.Nums<;>rfl
      ·have hi:=(i4.1 hx).1
       rw [n8,hx,a8,O0,a8]
       unfold a7j a74
       cases D0 x.Name with
       | false=>rfl
       | true=>
        rw [l7,i6,O8,a8]
        cases (decide (0≤x.Num)&&decide (x.Num≤999999999)) with
        | false=>rfl
        | true=>
         by_cases h0:i=0
         ·subst h0;rfl
         ·rw [l7,i6,b8 (show (0:Int)<(i:Int) by omega),j4,a0y (by omega) (by omega),n8,j8 (show i-1<d.Nums.length by omega),a8,c6 h0]
          simp only [Option.elim_some,Bool.false_or]
          cases D2 d.Nums[i-1].Name x.Name<;>rfl
    ·have hi:=(i4.1 hx).1
     rw [n8,hx,a8,O0,a8]
     unfold a5G a5b
     cases D0 x.Name with
     | false=>rfl
     | true=>
      rw [l7,i6,b1o,a8]
      cases a2n x.Text with
      | false=>rfl
      | true=>
       by_cases h0:i=0
       ·subst h0;rfl
       ·rw [l7,i6,b8 (show (0:Int)<(i:Int) by omega),j4,a0y (by omega) (by omega),n8,j8 (show i-1<d.Fields.length by omega),a8,c6 h0]
        simp only [Option.elim_some,Bool.false_or]
        cases D2 d.Fields[i-1].Name x.Name<;>rfl
   ·rw [b8 hf,c6 hn,Bool.and_false,Bool.and_false,Bool.and_false];rfl
  ·rw [c6 hf,Bool.false_and,Bool.and_false,Bool.and_false];rfl
structure a7X (d:A1):Prop where
 fields:d.Fields.length≤100
 nums:d.Nums.length≤100
 field: ∀f∈d.Fields,f.Name.length≤1000∧f.Text.length≤1000
 num: ∀a∈d.Nums,a.Name.length≤1000
structure b73 (B:Nat)(d:A1):Prop where
 fields:d.Fields.length≤B
 nums:d.Nums.length≤B
 field: ∀f∈d.Fields,f.Name.length≤B∧f.Text.length≤B
 num: ∀a∈d.Nums,a.Name.length≤B
theorem c0O (F B:Nat)(d:A1)(hd:b73 B d)(hB:B≤2000000)(hF:B+20<F):a5o F d=some (a5q d):=by
 have hm:10000000≤maxLen:=by decide
 obtain⟨b1,b2,b3,b4⟩:=hd
 unfold a5o a5q
 rw [a6a (ok:=a5G) (lt:=a5b) (xs:=d.Fields) (fun i x hx=>?_) ?_ F (by omega)]
 ·cases a3x a5G a5b d.Fields with
  | false=>rfl
  | true=>
   simp only [if_true,a8,Sum.elim_inl]
   rw [a6a (ok:=a7j) (lt:=a74) (xs:=d.Nums) (fun i x hx=>?_) ?_ F (by omega)]
   ·cases a3x a7j a74 d.Nums with
    | false=>rfl
    | true=>
     simp only [if_true,a8,Sum.elim_inl,u5]
     rw [inS,a8]
     cases (decide (1≤d.Id)&&decide (d.Id≤9999)) with
     | false=>rfl
     | true=>
      rw [j4,inS,a8,b8 (show (0:Int)≤(d.Fields.length:Int) by omega),u5]
      cases decide ((d.Fields.length:Int)≤3)<;>rfl
   ·rw [c6 (by omega)];rfl
   ·have hi:=(i4.1 hx).1
    have hb:=b4 x (n5 hx)
    rw [b8 (by omega),j4,n8,hx,a8,b1O F _ (by omega) (by omega),a8,y5 (by omega)]
    unfold a7j a74
    cases D0 x.Name with
    | false=>rfl
    | true=>
     rw [l7,i6,a8,inS,a8]
     cases (decide (0≤x.Num)&&decide (x.Num≤999999999)) with
     | false=>rfl
     | true=>
      by_cases h0:i=0
      ·subst h0;rfl
      ·have ht:=a6X d.Nums[i-1].Name x.Name
       rw [l7,i6,b8 (show (0:Int)<(i:Int) by omega),j4,a8,a0y (by omega) (by omega),n8,j8 (show i-1<d.Nums.length by omega),a8,c6 h0,←ht]
       simp only [Option.elim_some,Bool.false_or]
       cases D2 d.Nums[i-1].Name x.Name<;>rfl
 ·rw [c6 (by omega)];rfl
 ·have hi:=(i4.1 hx).1
  have hb:=b3 x (n5 hx)
  rw [b8 (by omega),j4,n8,hx,a8,b1O F _ (by omega) (by omega),a8,y5 (by omega)]
  unfold a5G a5b
  cases D0 x.Name with
  | false=>rfl
  | true=>
   rw [l7,i6,c0Z F _ (by omega) (by omega),a8]
   cases a2n x.Text with
   | false=>rfl
   | true=>
    by_cases h0:i=0
    ·subst h0;rfl
    ·have ht:=a6X d.Fields[i-1].Name x.Name
     rw [l7,i6,b8 (show (0:Int)<(i:Int) by omega),j4,a0y (by omega) (by omega),n8,j8 (show i-1<d.Fields.length by omega),a8,c6 h0,←ht]
     simp only [Option.elim_some,Bool.false_or]
     cases D2 d.Fields[i-1].Name x.Name<;>rfl
def b1V (a b:A1):Bool:=decide (a.Id<b.Id)
def a1I (ds:List A1):Bool:=a3x a5q b1V ds&&decide ((ds.length:Int)≤16)
theorem b4Z (F:Nat)(ds:List A1)(hl:ds.length<9000000000000000000):a2o F ds=some (a1I ds):=by
 unfold a2o a1I
 rw [a63 (ok:=a5q) (lt:=b1V) (xs:=ds) (fun i x hx=>?_)]
 ·cases a3x a5q b1V ds<;>rfl
 ·have hi:=(i4.1 hx).1
  rw [n8,hx,a8,b3z,a8]
  unfold b1V
  cases a5q x with
  | false=>rfl
  | true=>
   by_cases h0:i=0
   ·subst h0;rfl
   ·rw [l7,i6,b8 (show (0:Int)<(i:Int) by omega),j4,a0y (by omega) (by omega),n8,j8 (show i-1<ds.length by omega),a8,c6 h0]
    simp only [Option.elim_some,Bool.false_or]
    rw [b1g ds[i-1].Id x.Id]
    cases decide (x.Id≤ds[i-1].Id)<;>rfl
structure X3 (ds:List A1):Prop where
 few:ds.length≤100
 doc: ∀d∈ds,a7X d
theorem b8E (F B:Nat)(ds:List A1)(hl:ds.length≤B)(hd: ∀d∈ds,b73 B d)(hB:B≤2000000)(hF:B+20<F):a3O F ds=some (a1I ds):=by
 unfold a3O a1I
 rw [a6a (ok:=a5q) (lt:=b1V) (xs:=ds) (fun i x hx=>?_) ?_ F (by omega)]
 ·cases a3x a5q b1V ds<;>rfl
 ·rw [c6 (by omega)];rfl
 ·have hi:=(i4.1 hx).1
  rw [b8 (by omega),j4,n8,hx,a8,c0O F B x (hd x (n5 hx)) hB hF,a8,y5 (by omega)]
  unfold b1V
  cases a5q x with
  | false=>rfl
  | true=>
   by_cases h0:i=0
   ·subst h0;rfl
   ·rw [l7,i6,b8 (show (0:Int)<(i:Int) by omega),j4,a8,a0y (by omega) (by omega),n8,j8 (show i-1<ds.length by omega),a8,c6 h0]
    simp only [Option.elim_some,Bool.false_or,a8]
    rw [b1g ds[i-1].Id x.Id]
    cases decide (x.Id≤ds[i-1].Id)<;>rfl
theorem a0Q {ds:List A1}(h:a1I ds=true):ds.length≤16∧(∀d∈ds,1≤d.Id∧d.Id≤9999)∧ds.Pairwise fun a b=>a.Id<b.Id:=by
 unfold a1I at h
 rw [q8,decide_eq_true_iff] at h
 obtain⟨h1,h2⟩:=a59 h.1
 refine⟨by omega,fun d hd=>?_,?_⟩
 ·have:=h1 d hd
  unfold a5q at this
  simp only [q8,decide_eq_true_iff] at this
  exact this.2.1
 ·have gen: ∀l:List A1,(∀i,(hi:i+1<l.length)→l[i].Id<l[i+1].Id)→l.Pairwise fun a b=>a.Id<b.Id:=by
   intro l
   induction l with
   | nil=>intro _;exact List.Pairwise.nil
   | cons a l ih=>
    intro hl
    have ih':=ih (fun i hi=>by have:=hl (i+1) (by simp only [s6];omega);simpa using this)
    refine List.pairwise_cons.2 ⟨fun c hc=>?_,ih'⟩
    cases l with
    | nil=>cases hc
    | cons b l=>
     have hab:a.Id<b.Id:=hl 0 (by simp)
     rcases List.mem_cons.1 hc with rfl | hc
     ·exact hab
     ·have:=(List.pairwise_cons.1 ih').1 c hc;omega
  refine gen ds fun i hi=>?_
  have:=h2 i hi
  unfold b1V at this
  exact of_decide_eq_true this
theorem b3y (F:Nat)(d:A1)(h1:d.Fields.length≤1000000)(h2:d.Nums.length≤1000000):a13 F d=some d:=by
 unfold a13
 rw [H4 (by simp only [List.length_nil];omega),a8,H4 (by simp only [List.length_nil];omega)]
 rfl
theorem b8D (F:Nat)(d:A1)(h1:d.Fields.length≤1000000)(h2:d.Nums.length≤1000000):a3l F d=some d:=b3y F d h1 h2
end Go.Fk
set_option linter.unusedVariables false
namespace Go.Fk
open Go
theorem c2m (a:r4):D2 a []=false:=by cases a<;>rfl
theorem b9D (a b:UInt8)(x y:r4):D2 (a::x) (b::y)=true↔a<b∨(a=b∧D2 x y=true):=by
 simp [D2,Op.bytesLess]
theorem a2u: ∀x:r4,D2 x x=false
 | []=>rfl
 | a::x=>by
  rw [Bool.eq_false_iff]
  intro h
  rcases (b9D a a x x).1 h with h | ⟨_,h⟩
  ·exact absurd (UInt8.lt_iff_toNat_lt.1 h) (by omega)
  ·rw [a2u x] at h;cases h
theorem a7b: ∀{x y z:r4},D2 x y=true→D2 y z=true→D2 x z=true
 | _,_,[],_,h=>by rw [c2m] at h;cases h
 | _,[],_::_,h,_=>by rw [c2m] at h;cases h
 | [],_::_,_::_,_,_=>rfl
 | a::x,b::y,c::z,h,h'=>by
  rw [b9D] at h h' ⊢
  rcases h with h | ⟨rfl,h⟩
  ·rcases h' with h' | ⟨rfl,h'⟩
   ·exact .inl (UInt8.lt_iff_toNat_lt.2 (Nat.lt_trans (UInt8.lt_iff_toNat_lt.1 h) (UInt8.lt_iff_toNat_lt.1 h')))
   ·exact .inl h
  ·rcases h' with h' | ⟨rfl,h'⟩
   ·exact .inl h'
   ·exact .inr ⟨rfl,a7b h h'⟩
theorem b7F {a b:r4}(hne:a≠b):D2 a b=true∨D2 b a=true:=by
 have:=a6X a b
 cases h:D2 a b
 ·rw [h] at this
  have h2:(b==a)=false:=beq_eq_false_iff_ne.2 fun e=>hne e.symm
  rw [h2,Bool.or_false] at this
  exact .inr this.symm
 ·exact .inl rfl
theorem c2l {a b c:r4}(h:D2 a c=true):D2 a b=true∨D2 b c=true:=by
 by_cases e:a=b
 ·subst e;exact .inr h
 ·rcases b7F e with h1 | h1
  ·exact .inl h1
  ·exact .inr (a7b h1 h)
def a7Z (l:List r4):Prop:=l.Pairwise fun a b=>D2 a b=true
def a5y (s:r4):List r4→List r4
 | []=>[s]
 | a::l=>if D2 a s then a::a5y s l else if a==s then a::l else s::a::l
theorem b3G {s x:r4}: ∀{l:List r4},x∈a5y s l↔x=s∨x∈l
 | []=>by simp [a5y]
 | a::l=>by
  unfold a5y
  split
  ·rw [List.mem_cons,b3G (l:=l),List.mem_cons]
   constructor
   ·rintro (h1 | h1 | h1)<;>simp [h1]
   ·rintro (h1 | h1 | h1)<;>simp [h1]
  ·split
   ·rename_i h
    have:=eq_of_beq h
    subst this
    rw [List.mem_cons]
    constructor
    ·rintro (h | h)<;>simp [h]
    ·rintro (h | h | h)<;>simp [h]
   ·simp [List.mem_cons]
theorem b15 {s:r4}: ∀{l:List r4},a7Z l→a7Z (a5y s l)
 | [],_=>by simp [a5y,a7Z]
 | a::l,hs=>by
  have hc:=List.pairwise_cons.1 hs
  unfold a5y
  cases hl:D2 a s with
  | true=>
   rw [if_pos rfl]
   refine List.pairwise_cons.2 ⟨fun x hx=>?_,b15 hc.2⟩
   rcases b3G.1 hx with rfl | hx
   ·exact hl
   ·exact hc.1 x hx
  | false=>
   rw [if_neg (by simp)]
   cases he:(a==s) with
   | true=>exact hs
   | false=>
    have hsa:D2 s a=true:=by
     rcases b7F (a:=a) (b:=s) (by simpa using he) with h | h
     ·rw [hl] at h;cases h
     ·exact h
    rw [if_neg (by simp)]
    refine List.pairwise_cons.2 ⟨fun x hx=>?_,hs⟩
    rcases List.mem_cons.1 hx with rfl | hx
    ·exact hsa
    ·exact a7b hsa (hc.1 x hx)
theorem b0x (s:r4): ∀l:List r4,(a5y s l).length≤l.length+1
 | []=>by simp [a5y]
 | a::l=>by
  unfold a5y
  split
  ·have:=b0x s l;simp only [s6];omega
  ·split<;>simp only [s6]<;>omega
def a3V (s:r4):List r4→Nat
 | []=>0
 | a::l=>if D2 a s then a3V s l+1 else 0
theorem b7m (s:r4): ∀l:List r4,a3V s l≤l.length
 | []=>Nat.le_refl _
 | a::l=>by
  unfold a3V
  split
  ·have:=b7m s l;simp only [s6];omega
  ·omega
theorem b6V (s:r4): ∀l:List r4,a5y s l=if (l[a3V s l]?).elim false (fun x=>x==s) then l else l.take (a3V s l)++[s]++l.drop (a3V s l)
 | []=>rfl
 | a::l=>by
  unfold a5y a3V
  split
  ·rw [b6V s l,List.getElem?_cons_succ]
   split<;>simp
  ·rw [T6,T6,List.getElem?_cons_zero,Option.elim_some]
   cases (a==s)<;>rfl
theorem b2c {s:r4}{xs:List r4}{f:Int→Option (Int⊕Int)}(h1: ∀(i:Nat) x,xs[i]? =some x→f (i:Int)=some (if D2 x s then .inl ((i+1:Nat):Int) else .inr (i:Int)))
  (h0:f (xs.length:Int)=some (.inr (xs.length:Int))): ∀(k i F:Nat),i+k=xs.length→k<F→y2 f F (i:Int)=some ((i+a3V s (xs.drop i):Nat):Int)
 | 0,i,F,e,hF=>by
  obtain⟨F,rfl⟩: ∃G,F=G+1:=⟨F-1,by omega⟩
  rw [y2,show i=xs.length by omega,h0,List.drop_eq_nil_of_le (by omega)];rfl
 | k+1,i,F,e,hF=>by
  obtain⟨F,rfl⟩: ∃G,F=G+1:=⟨F-1,by omega⟩
  have hi:i<xs.length:=by omega
  rw [y2,h1 i xs[i] (j8 hi),List.drop_eq_getElem_cons hi,a3V]
  cases D2 xs[i] s with
  | true=>
   simp only [if_true,a8,Sum.elim_inl]
   rw [b2c h1 h0 k (i+1) F (by omega) (by omega)]
   congr 2;omega
  | false=>simp
theorem a9x {α σ τ τ':Type}{xs:List α}{e:σ→τ}{g:σ→α→σ}{I:Nat→σ→Prop}{mk:σ→Int→τ'}{f:τ'→Option (τ'⊕τ)}(h: ∀(i:Nat) x s,xs[i]? =some x→I i s→f (mk s (i:Int))=some (.inl (mk (g s x) ((i+1:Nat):Int)))∧I (i+1) (g s x))
  (h0: ∀s,I xs.length s→f (mk s (xs.length:Int))=some (.inr (e s))): ∀k i s F,i+k=xs.length→k<F→I i s→y2 f F (mk s (i:Int))=some (e ((xs.drop i).foldl g s))∧I xs.length ((xs.drop i).foldl g s)
 | 0,i,s,F,he,hF,hI=>by
  obtain⟨F,rfl⟩: ∃G,F=G+1:=⟨F-1,by omega⟩
  obtain rfl:i=xs.length:=by omega
  rw [y2,h0 s hI,List.drop_of_length_le (Nat.le_refl _)]
  exact⟨rfl,hI⟩
 | k+1,i,s,F,he,hF,hI=>by
  obtain⟨F,rfl⟩: ∃G,F=G+1:=⟨F-1,by omega⟩
  have hi:i<xs.length:=by omega
  obtain⟨h1,h2⟩:=h i xs[i] s (j8 hi) hI
  rw [List.drop_eq_getElem_cons hi,List.foldl_cons,y2,h1,a8]
  exact a9x h h0 k (i+1) _ F (by omega) (by omega) h2
theorem Y1 {α σ τ τ':Type}{xs:List α}(g:σ→α→σ)(I:Nat→σ→Prop)(e:σ→τ)(mk:σ→Int→τ'){f:τ'→Option (τ'⊕τ)}{s0:τ'}(s:σ)(hs:s0=mk s 0)(F:Nat)(hF:xs.length<F)(hI:I 0 s)(h: ∀(i:Nat) x s,xs[i]? =some x→I i s→f (mk s (i:Int))=some (.inl (mk (g s x) ((i+1:Nat):Int)))∧I (i+1) (g s x))
  (h0: ∀s,I xs.length s→f (mk s (xs.length:Int))=some (.inr (e s))):y2 f F s0=some (e (xs.foldl g s))∧I xs.length (xs.foldl g s):=by
 have:=a9x h h0 xs.length 0 s F (by omega) hF hI
 rw [List.drop_zero] at this
 rw [hs];exact this
theorem b2h {β:Type}{lt:β→β→Bool}(irr: ∀a,lt a a=false)(tr: ∀{a b c},lt a b=true→lt b c=true→lt a c=true): ∀{a b:List β},(a.Pairwise fun x y=>lt x y=true)→(b.Pairwise fun x y=>lt x y=true)→(∀x,x∈a↔x∈b)→a=b
 | [],[],_,_,_=>rfl
 | [],y::b,_,_,h=>by have:=(h y).2 (by simp);cases this
 | x::a,[],_,_,h=>by have:=(h x).1 (by simp);cases this
 | x::a,y::b,ha,hb,h=>by
  have hac:=List.pairwise_cons.1 ha
  have hbc:=List.pairwise_cons.1 hb
  have hxy:x=y:=by
   rcases List.mem_cons.1 ((h x).1 (by simp)) with e | hx
   ·exact e
   ·rcases List.mem_cons.1 ((h y).2 (by simp)) with e | hy
    ·exact e.symm
    ·have:=tr (hbc.1 x hx) (hac.1 y hy)
     rw [irr] at this;cases this
  subst hxy
  congr 1
  refine b2h irr tr hac.2 hbc.2 fun z=>?_
  constructor
  ·intro hz
   rcases List.mem_cons.1 ((h z).1 (by simp [hz])) with e | hz'
   ·subst e
    have:=hac.1 z hz
    rw [irr] at this;cases this
   ·exact hz'
  ·intro hz
   rcases List.mem_cons.1 ((h z).2 (by simp [hz])) with e | hz'
   ·subst e
    have:=hbc.1 z hz
    rw [irr] at this;cases this
   ·exact hz'
theorem c2n {β:Type}{c:β→β→Option Int}{lt:β→β→Bool}(hlt: ∀a b,ltO c a b=lt a b)(hsm: ∀a b,(c a b).isSome=true)(irr: ∀a,lt a a=false)(tr: ∀{a b c},lt a b=true→lt b c=true→lt a c=true)(ng: ∀{a b c},lt a c=true→lt a b=true∨lt b c=true)
  {l t:List β}(hd:l.Pairwise fun a b=>lt a b=true∨lt b a=true)(ht:t.Pairwise fun x y=>lt x y=true)(hm: ∀x,x∈t↔x∈l)(hl:l.length≤1000000):a9L c l=some t:=by
 have hok:a92 c l=true:=by
  unfold a92
  simp only [hlt,q8,decide_eq_true_iff,List.all_eq_true]
  refine⟨⟨⟨⟨⟨by omega,fun x _ y _=>hsm x y⟩,fun x _=>by rw [irr];rfl⟩,fun x _ y _ z _=>?_⟩,fun x _ y _ z _=>?_⟩,hd⟩
  ·cases h1:lt x y with
   | false=>simp
   | true=>
    cases h2:lt y z with
    | false=>simp
    | true=>rw [tr h1 h2];rfl
  ·cases h1:lt x y with
   | true=>simp
   | false=>
    cases h2:lt y z with
    | true=>simp
    | false=>
     have:lt x z=false:=by
      rw [Bool.eq_false_iff];intro h3
      rcases ng (b:=y) h3 with h | h
      ·rw [h1] at h;cases h
      ·rw [h2] at h;cases h
     rw [this];rfl
 unfold a9L
 rw [if_pos hok]
 congr 1
 have hperm:=List.mergeSort_perm l (fun x y=> !ltO c y x)
 refine b2h irr tr ?_ ht (fun x=>by rw [hperm.mem_iff,hm])
 have hsorted:=List.pairwise_mergeSort (le:=fun x y=> !ltO c y x) (fun a b c' h1 h2=>by
   simp only [hlt,Bool.not_eq_true'] at h1 h2 ⊢
   rw [Bool.eq_false_iff];intro h3
   rcases ng (b:=b) h3 with h | h
   ·rw [h2] at h;cases h
   ·rw [h1] at h;cases h) (fun a b=>by
   simp only [hlt]
   cases h:lt b a with
   | false=>rfl
   | true=>
    have:lt a b=false:=by
     rw [Bool.eq_false_iff];intro h2
     have:=tr h h2
     rw [irr] at this;cases this
    rw [this];rfl) l
 have hd':(l.mergeSort fun x y=> !ltO c y x).Pairwise fun a b=>lt a b=true∨lt b a=true:=hperm.symm.pairwise hd fun h=>h.symm
 refine(hsorted.and hd').imp fun {a b} ⟨h1,h2⟩=>?_
 simp only [hlt,Bool.not_eq_true'] at h1
 rcases h2 with h2 | h2
 ·exact h2
 ·rw [h1] at h2;cases h2
end Go.Fk
