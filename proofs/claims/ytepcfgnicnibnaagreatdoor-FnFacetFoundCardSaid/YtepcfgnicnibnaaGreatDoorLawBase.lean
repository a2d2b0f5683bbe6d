import Derived.Test.YtepcfgnicnibnaaGreatDoorCoreAL
import Derived.Test.YtepcfgnicnibnaaGreatDoorModel
/-
  How the models' loops run: a step's law gives the loop's law. Of no program.
-/
namespace Go.Fk
open Go
theorem H4 {σ τ:Type}{f:σ→Option (σ⊕τ)}{Post:τ→Prop}(Inv:Nat→σ→Prop)(n:Nat)
  (step: ∀i s,i<n→Inv i s→(∃s',f s=some (.inl s')∧Inv (i+1) s')∨(∃t,f s=some (.inr t)∧Post t))
  (fin: ∀s,Inv n s→∃t,f s=some (.inr t)∧Post t): ∀(k i:Nat) (s:σ) (F:Nat),i+k=n→k<F→Inv i s→∃t,v8 f F s=some t∧Post t
 | 0,i,s,F,e,hF,hi=>by
  obtain⟨F,rfl⟩: ∃G,F=G+1:=⟨F-1,by omega⟩
  obtain⟨t,h1,h2⟩:=fin s (by rw [←e];exact hi)
  exact⟨t,by rw [v8,h1];rfl,h2⟩
 | k+1,i,s,F,e,hF,hi=>by
  obtain⟨F,rfl⟩: ∃G,F=G+1:=⟨F-1,by omega⟩
  rcases step i s (by omega) hi with ⟨s',h1,h2⟩ | ⟨t,h1,h2⟩
  ·obtain⟨t,h3,h4⟩:=H4 Inv n step fin k (i+1) s' F (by omega) (by omega) h2
   exact⟨t,by rw [v8,h1];exact h3,h4⟩
  ·exact⟨t,by rw [v8,h1];rfl,h2⟩
theorem a0m {α:Type}{xs:List α}{i:Nat}(h:i<xs.length):u0 xs (i:Int)=some xs[i]:=by
 unfold u0
 rw [if_pos (by omega)]
 exact j4 (by omega)
theorem b2J {i:Nat}(h:i<9000000000000000000):A1 (i:Int)=i:=B9 ⟨by omega,by omega⟩
theorem V5 {i:Nat}(h0:0<i)(h:i<9000000000000000000):A1 ((i:Int)-1)=((i-1:Nat):Int):=by rw [B9 ⟨by omega,by omega⟩];omega
theorem a9u {n:Nat}{τ:Type}{f:Int→Option (Int⊕(Unit⊕τ))}(h: ∀i:Nat,i<n→f (i:Int)=some (.inl ((i+1:Nat):Int)))
  (h0:f (n:Int)=some (.inr (.inl ()))): ∀k i F,i+k=n→k<F→v8 f F (i:Int)=some (.inl ())
 | 0,i,F,e,hF=>by
  obtain⟨F,rfl⟩: ∃G,F=G+1:=⟨F-1,by omega⟩
  rw [v8,show i=n by omega,h0];rfl
 | k+1,i,F,e,hF=>by
  obtain⟨F,rfl⟩: ∃G,F=G+1:=⟨F-1,by omega⟩
  rw [v8,h i (by omega)]
  exact a9u h h0 k (i+1) F (by omega) (by omega)
theorem b5l {n:Nat}{τ:Type}{f:Int→Option (Int⊕(Unit⊕τ))}(F:Nat)(hF:n<F)(h: ∀i:Nat,i<n→f (i:Int)=some (.inl ((i+1:Nat):Int)))
  (h0:f (n:Int)=some (.inr (.inl ()))):v8 f F (0:Int)=some (.inl ()):=a9u h h0 n 0 F (by omega) hF
end Go.Fk
namespace Go.Fk
open Go
theorem n5 {α:Type}(xs:List α)(i:Nat):u0 xs (i:Int)=xs[i]? :=by simp [u0]
theorem y2 {i:Nat}(h:i<9223372036854775807):A1 ((i:Int)+1)=((i+1:Nat):Int):=by rw [B9 ⟨by omega,by omega⟩];rfl
theorem a0k {α:Type}{p:α→Bool}{xs:List α}{f:Nat→Unit→Option (Unit⊕Bool)}(h: ∀i x,xs[i]? =some x→f i ()=some (if p x then .inl () else .inr false)):
  ∀k i,i+k=xs.length→C7 f k i ()=some (if (xs.drop i).all p then .inl () else .inr false)
 | 0,i,e=>by rw [List.drop_eq_nil_of_le (by omega)];rfl
 | k+1,i,e=>by
  have hi:i<xs.length:=by omega
  rw [C7,h i xs[i] (j4 hi),List.drop_eq_getElem_cons hi,List.all_cons]
  cases hp:p xs[i]
  ·rfl
  ·simp only [q8]
   exact a0k h k (i+1) (by omega)
theorem a6n {α:Type}{p:α→Bool}{xs:List α}{f:Int→Option (Int⊕(Unit⊕Bool))}(h: ∀(i:Nat) x,xs[i]? =some x→f (i:Int)=some (if p x then .inl ((i+1:Nat):Int) else .inr (.inr false)))
  (h0:f (xs.length:Int)=some (.inr (.inl ()))): ∀k i F,i+k=xs.length→k<F→v8 f F (i:Int)=some (if (xs.drop i).all p then .inl () else .inr false)
 | 0,i,F,e,hF=>by
  obtain⟨F,rfl⟩: ∃G,F=G+1:=⟨F-1,by omega⟩
  rw [v8,show i=xs.length by omega,h0,List.drop_eq_nil_of_le (by omega)];rfl
 | k+1,i,F,e,hF=>by
  obtain⟨F,rfl⟩: ∃G,F=G+1:=⟨F-1,by omega⟩
  have hi:i<xs.length:=by omega
  rw [v8,h i xs[i] (j4 hi),List.drop_eq_getElem_cons hi,List.all_cons]
  cases hp:p xs[i]
  ·rfl
  ·simp only [q8]
   exact a6n h h0 k (i+1) F (by omega) (by omega)
theorem b0m {α τ:Type}{p:α→Bool}{e:τ}{xs:List α}{f:Nat→Unit→Option (Unit⊕τ)}(h: ∀i x,xs[i]? =some x→f i ()=some (if p x then .inl () else .inr e)):
  ∀k i,i+k=xs.length→C7 f k i ()=some (if (xs.drop i).all p then .inl () else .inr e)
 | 0,i,q=>by rw [List.drop_eq_nil_of_le (by omega)];rfl
 | k+1,i,q=>by
  have hi:i<xs.length:=by omega
  rw [C7,h i xs[i] (j4 hi),List.drop_eq_getElem_cons hi,List.all_cons]
  cases hp:p xs[i]
  ·rfl
  ·simp only [q8]
   exact b0m h k (i+1) (by omega)
end Go.Fk
namespace Go.Fk
open Go
def a0W (b:UInt8):Bool:=(decide ((97:UInt8)≤b)&&decide (b≤(122:UInt8)))||(decide ((48:UInt8)≤b)&&decide (b≤(57:UInt8)))
def D0 (s:q9):Bool:=s.all a0W&&(decide (1≤s.length)&&decide (s.length≤12))
theorem a9q {Q:UInt8→Prop}(h: ∀n,n<256→Q (UInt8.ofNat n))(b:UInt8):Q b:=by
 have:=h b.toNat b.toNat_lt
 rwa [UInt8.ofNat_toNat] at this
theorem a43 (F:Nat)(b:UInt8):R5 F b=some (a0W b):=by
 unfold R5 a0W
 cases decide ((97:UInt8)≤b)<;>cases decide (b≤(122:UInt8))<;>cases decide ((48:UInt8)≤b)<;>cases decide (b≤(57:UInt8))<;>rfl
def a7z (b:UInt8):UInt8:=if (65:UInt8)≤b∧b≤(90:UInt8) then b+32 else if a0W b then b else 0
theorem a8w (F:Nat)(b:UInt8):S9 F b=some (a7z b):=by
 unfold S9 a7z a0W
 by_cases h1:(65:UInt8)≤b<;>by_cases h2:b≤(90:UInt8)<;>by_cases h3:(97:UInt8)≤b<;>by_cases h4:b≤(122:UInt8)<;>by_cases h5:(48:UInt8)≤b<;>by_cases h6:b≤(57:UInt8)<;>simp [h1,h2,h3,h4,h5,h6]
theorem b99 (b:UInt8):((!(a7z b==b))||(b==0))= !a0W b:=
 a9q (Q:=fun b=>((!(a7z b==b))||(b==0))= !a0W b) (by decide +kernel) b
theorem b3W (F:Nat)(n:Nat):y9 F (n:Int) 1 12=some (decide (1≤n)&&decide (n≤12)):=by
 unfold y9
 by_cases h:1≤n
 ·rw [b8 (show (1:Int)≤n by omega),b8 h,i9]
  congr 1
  by_cases h2:n≤12
  ·rw [b8 h2,b8 (by omega)];rfl
  ·rw [c6 h2,c6 (by omega)];rfl
 ·rw [c6 (show ¬(1:Int)≤n by omega),c6 h];rfl
theorem c42 (F:Nat)(n:Nat):D7 F (n:Int) 1 12=some (decide (1≤n)&&decide (n≤12)):=b3W F n
theorem M0 (F:Nat)(s:q9):G4 F s=some (D0 s):=by
 unfold G4 D0
 rw [a0k (p:=a0W) (xs:=s) (fun i x hx=>?_) s.length 0 (by omega),List.drop_zero]
 ·cases s.all a0W
  ·rfl
  ·show (y9 F (s.length:Int) 1 12).bind _=_
   rw [b3W];rfl
 ·rw [n5,hx,a8,a43,a8]
  cases a0W x<;>rfl
theorem b00 (F:Nat)(s:q9)(hF:s.length<F)(hs:s.length≤maxLen):D6 F s=some (D0 s):=by
 unfold D6 D0
 have hm:maxLen≤9223372036854775807:=by decide
 rw [show (0:Int)=((0:Nat):Int) from rfl,a6n (p:=a0W) (xs:=s) (fun i x hx=>?_) ?_ s.length 0 F (by omega) hF,List.drop_zero]
 ·cases s.all a0W
  ·rfl
  ·show (D7 F (s.length:Int) 1 12).bind _=_
   rw [c42];rfl
 ·rw [c6 (by omega)];rfl
 ·have hi:=(i4.1 hx).1
  have hw:=b99 x
  rw [b8 (by omega),i9,n5,hx,a8,a8w,a8,a8,y2 (by omega)]
  simp only [a8]
  generalize (x==0)=q at hw ⊢
  generalize (a7z x==x)=r at hw ⊢
  generalize a0W x=b at hw ⊢
  cases q<;>cases r<;>cases b<;>first | rfl | (exact absurd hw (by decide))
end Go.Fk
namespace Go.Fk
open Go
theorem a6r {σ:Type}{f:Nat→σ→Option σ}(Inv:Nat→σ→Prop)(n:Nat)
  (step: ∀i s,i<n→Inv i s→∃s',f i s=some s'∧Inv (i+1) s'): ∀(k i:Nat) (s:σ),i+k=n→Inv i s→∃t,U6 f k i s=some t∧Inv n t
 | 0,i,s,e,hi=>⟨s,rfl,by rw [←e];exact hi⟩
 | k+1,i,s,e,hi=>by
  obtain⟨s',h1,h2⟩:=step i s (by omega) hi
  obtain⟨t,h3,h4⟩:=a6r Inv n step k (i+1) s' (by omega) h2
  exact⟨t,by rw [U6,h1];exact h3,h4⟩
theorem c6T {α:Type}{ws:List α}{p:α→Bool}{f:Nat→List α→Option (List α)}(hl:ws.length≤1000)
  (h: ∀(i:Nat) w (out:List α),ws[i]? =some w→out.length≤1000→f i out=some (if p w then out++[w] else out)):U6 f ws.length 0 []=some (ws.filter p):=by
 obtain⟨t,ht,hp⟩:=a6r (σ:=List α) (f:=f) (fun i s'=>s'=(ws.take i).filter p) ws.length (fun i s' hi hs=>by
  have hle:((ws.take i).filter p).length≤1000:=by
   have h1:=List.length_filter_le p (ws.take i)
   simp only [List.length_take] at h1
   omega
  refine⟨_,h i ws[i] s' (j4 hi) (by rw [hs];exact hle),?_⟩
  rw [List.take_succ_eq_append_getElem hi,List.filter_append,hs]
  cases hp:p ws[i]<;>simp [hp]) ws.length 0 [] (by omega) (by simp)
 rw [ht,hp,List.take_length]
theorem c6V {α:Type}{ws:List α}{p:α→Bool}{f:(List α)×Int→Option (((List α)×Int)⊕(List α))}(hl:ws.length≤1000)
  (h: ∀(i:Nat) w (out:List α),ws[i]? =some w→out.length≤1000→f (out,(i:Int))=some (.inl (if p w then out++[w] else out,((i+1:Nat):Int))))
  (h0: ∀out,f (out,(ws.length:Int))=some (.inr out))(F:Nat)(hF:ws.length<F):v8 f F (([]:List α),(0:Int))=some (ws.filter p):=by
 obtain⟨t,ht,hp⟩:=H4 (σ:=(List α)×Int) (τ:=List α) (f:=f) (Post:=fun t=>t=ws.filter p) (fun i s=>s=((ws.take i).filter p,(i:Int))) ws.length (fun i s hi hs=>by
  subst hs
  have hle:((ws.take i).filter p).length≤1000:=by
   have h1:=List.length_filter_le p (ws.take i)
   simp only [List.length_take] at h1
   omega
  refine .inl ⟨_,h i ws[i] _ (j4 hi) hle,?_⟩
  rw [List.take_succ_eq_append_getElem hi,List.filter_append]
  cases hp:p ws[i]<;>simp [hp]) (fun s hs=>by
  subst hs
  exact⟨_,h0 _,by rw [List.take_length]⟩) ws.length 0 (([]:List α),(0:Int)) F (by omega) hF (by simp)
 rw [ht,hp]
theorem b7U {α:Type}{xs:List α}{i:Nat}{q:α×Nat}(h:xs.zipIdx[i]? =some q):xs[i]? =some q.1∧q.2=i:=by
 rw [List.getElem?_zipIdx] at h
 obtain⟨x,hx,rfl⟩:=Option.map_eq_some_iff.1 h
 exact⟨hx,by simp⟩
theorem a6v: ∀a b:q9,(!C4 a b)=(C4 b a||b==a)
 | [],[]=>rfl
 | [],_::_=>rfl
 | _::_,[]=>rfl
 | a::x,b::y=>by
  have ih:=a6v x y
  simp only [C4] at ih
  simp only [C4,Op.bytesLess,List.cons_beq_cons]
  rcases Nat.lt_trichotomy a.toNat b.toNat with h | h | h
  ·have h1:decide (a<b)=true:=b8 (UInt8.lt_iff_toNat_lt.2 h)
   have h2:decide (b<a)=false:=c6 (fun q=>by have:=UInt8.lt_iff_toNat_lt.1 q;omega)
   have h3:(b==a)=false:=beq_eq_false_iff_ne.2 (fun q=>by subst q;omega)
   simp [h1,h2,h3]
  ·have h0:=UInt8.toNat_inj.1 h
   subst h0
   have h1:decide (a<a)=false:=c6 (fun q=>by have:=UInt8.lt_iff_toNat_lt.1 q;omega)
   simp only [h1,Bool.false_or,beq_self_eq_true,q8]
   exact ih
  ·have h1:decide (a<b)=false:=c6 (fun q=>by have:=UInt8.lt_iff_toNat_lt.1 q;omega)
   have h2:decide (b<a)=true:=b8 (UInt8.lt_iff_toNat_lt.2 h)
   have h3:(a==b)=false:=beq_eq_false_iff_ne.2 (fun q=>by subst q;omega)
   simp [h1,h2,h3]
def a91 {α:Type}(ok:α→Bool)(lt:α→α→Bool)(xs:List α)(q:α×Nat):Bool:=ok q.1&&(decide (q.2=0)||((xs[q.2-1]?).elim true fun g=>lt g q.1))
def a1U {α:Type}(ok:α→Bool)(lt:α→α→Bool)(xs:List α):Bool:=xs.zipIdx.all (a91 ok lt xs)
theorem a47 {α:Type}{ok:α→Bool}{lt:α→α→Bool}{xs:List α}{f:Nat→Unit→Option (Unit⊕Bool)}
  (h: ∀(i:Nat) x,xs[i]? =some x→f i ()=some (if ok x&&(decide (i=0)||((xs[i-1]?).elim true fun g=>lt g x)) then .inl () else .inr false)):
  C7 f xs.length 0 ()=some (if a1U ok lt xs then .inl () else .inr false):=by
 have hz:xs.length=xs.zipIdx.length:=by simp
 rw [a0k (p:=a91 ok lt xs) (xs:=xs.zipIdx) (fun i q hq=>?_) xs.length 0 (by omega),List.drop_zero]
 ·rfl
 ·obtain⟨hx,hi⟩:=b7U hq
  rw [h i q.1 hx,a91,hi]
theorem a5y {α:Type}{ok:α→Bool}{lt:α→α→Bool}{xs:List α}{f:Int→Option (Int⊕(Unit⊕Bool))}
  (h: ∀(i:Nat) x,xs[i]? =some x→f (i:Int)=some (if ok x&&(decide (i=0)||((xs[i-1]?).elim true fun g=>lt g x)) then .inl ((i+1:Nat):Int) else .inr (.inr false)))
  (h0:f (xs.length:Int)=some (.inr (.inl ())))(F:Nat)(hF:xs.length<F):
  v8 f F (0:Int)=some (if a1U ok lt xs then .inl () else .inr false):=by
 have hz:xs.length=xs.zipIdx.length:=by simp
 have:=a6n (p:=a91 ok lt xs) (xs:=xs.zipIdx) (f:=f) (fun i q hq=>?_) (by rw [←hz];exact h0) xs.length 0 F (by omega) hF
 ·rw [List.drop_zero] at this
  exact this
 ·obtain⟨hx,hi⟩:=b7U hq
  rw [h i q.1 hx,a91,hi]
theorem a3Q {α:Type}{ok:α→Bool}{lt:α→α→Bool}{xs:List α}(h:a1U ok lt xs=true):(∀x∈xs,ok x=true)∧∀i,(hi:i+1<xs.length)→lt xs[i] xs[i+1]=true:=by
 unfold a1U at h
 rw [List.all_eq_true] at h
 have hat: ∀i,(hi:i<xs.length)→a91 ok lt xs (xs[i],i)=true:=fun i hi=>h (xs[i],i) (by
  rw [List.mem_iff_getElem?]
  exact⟨i,by rw [List.getElem?_zipIdx,j4 hi];simp⟩)
 refine⟨fun x hx=>?_,fun i hi=>?_⟩
 ·obtain⟨i,hi,rfl⟩:=List.mem_iff_getElem.1 hx
  have:=hat i hi
  unfold a91 at this
  rw [l8] at this
  exact this.1
 ·have:=hat (i+1) hi
  unfold a91 at this
  rw [l8] at this
  have h2:=this.2
  rw [c6 (by omega),Nat.add_sub_cancel,j4 (show i<xs.length by omega)] at h2
  exact h2
theorem M7 (F:Nat)(n a b:Int):y9 F n a b=some (decide (a≤n)&&decide (n≤b)):=by
 unfold y9
 cases decide (a≤n)<;>rfl
theorem inS (F:Nat)(n a b:Int):D7 F n a b=some (decide (a≤n)&&decide (n≤b)):=by
 unfold D7
 cases decide (a≤n)<;>rfl
theorem F1 {α:Type}{n:Nat}{xs ys:List α}(h:(xs.length+ys.length)*n≤140737488355328):J5 n xs ys=some (xs++ys):=by rw [J5,if_pos h]
end Go.Fk
namespace Go.Fk
open Go
theorem R2 {α:Type}(b:Bool)(x y:α):(if b=true then x else y)=bif b then x else y:=by cases b<;>rfl
theorem a9B {α σ τ:Type}{xs:List α}{p:α→Bool}{g:α→τ}{s:σ}{f:Nat→σ→Option (σ⊕τ)}(h: ∀i x,xs[i]? =some x→f i s=some (if p x then .inr (g x) else .inl s)):
  ∀k i,i+k=xs.length→C7 f k i s=some (((xs.drop i).find? p).elim (.inl s) fun x=>.inr (g x))
 | 0,i,e=>by rw [C7,List.drop_of_length_le (by omega)];rfl
 | k+1,i,e=>by
  have hi:i<xs.length:=by omega
  rw [C7,h i xs[i] (j4 hi),List.drop_eq_getElem_cons hi,List.find?_cons]
  cases hp:p xs[i]
  ·rw [a8];exact a9B h k (i+1) (by omega)
  ·rfl
theorem a2v {α σ τ:Type}{xs:List α}(p:α→Bool)(g:α→τ){s:σ}{f:Nat→σ→Option (σ⊕τ)}(h: ∀i x,xs[i]? =some x→f i s=some (if p x then .inr (g x) else .inl s)):
  C7 f xs.length 0 s=some ((xs.find? p).elim (.inl s) fun x=>.inr (g x)):=a9B h xs.length 0 (by omega)
theorem a8J {α τ:Type}{xs:List α}{p:α→Bool}{g:α→τ}{e:τ}{f:Int→Option (Int⊕τ)}(h: ∀(i:Nat) x,xs[i]? =some x→f (i:Int)=some (if p x then .inr (g x) else .inl ((i+1:Nat):Int)))(h0:f (xs.length:Int)=some (.inr e)):
  ∀k i F,i+k=xs.length→k<F→v8 f F (i:Int)=some (((xs.drop i).find? p).elim e g)
 | 0,i,F,he,hF=>by
  obtain⟨F,rfl⟩: ∃G,F=G+1:=⟨F-1,by omega⟩
  rw [v8,show i=xs.length by omega,h0,List.drop_of_length_le (Nat.le_refl _)];rfl
 | k+1,i,F,he,hF=>by
  obtain⟨F,rfl⟩: ∃G,F=G+1:=⟨F-1,by omega⟩
  have hi:i<xs.length:=by omega
  rw [v8,h i xs[i] (j4 hi),List.drop_eq_getElem_cons hi,List.find?_cons]
  cases hp:p xs[i]
  ·rw [a8];exact a8J h h0 k (i+1) F (by omega) (by omega)
  ·rfl
theorem a1b {α τ:Type}{xs:List α}(p:α→Bool)(g:α→τ){e:τ}{f:Int→Option (Int⊕τ)}(F:Nat)(hF:xs.length<F)(h: ∀(i:Nat) x,xs[i]? =some x→f (i:Int)=some (if p x then .inr (g x) else .inl ((i+1:Nat):Int)))(h0:f (xs.length:Int)=some (.inr e)):
  v8 f F (0:Int)=some ((xs.find? p).elim e g):=a8J h h0 xs.length 0 F (by omega) hF
theorem a07 {α:Type}(p:α→Bool){xs:List α}{f:Int→Option (Int⊕(Unit⊕Bool))}(F:Nat)(hF:xs.length<F)(h: ∀(i:Nat) x,xs[i]? =some x→f (i:Int)=some (if p x then .inl ((i+1:Nat):Int) else .inr (.inr false)))
  (h0:f (xs.length:Int)=some (.inr (.inl ()))):v8 f F (0:Int)=some (if xs.all p then .inl () else .inr false):=by
 have:=a6n (p:=p) h h0 xs.length 0 F (by omega) hF
 rwa [List.drop_zero] at this
theorem b1i {α σ:Type}{xs:List α}{p:α→Bool}{s:σ}{f:Nat→σ→Option (σ⊕Int)}(h: ∀i x,xs[i]? =some x→f i s=some (if p x then .inr (i:Int) else .inl s)):
  ∀k i,i+k=xs.length→C7 f k i s=some (((xs.drop i).findIdx? p).elim (.inl s) fun j=>.inr ((i+j:Nat):Int))
 | 0,i,e=>by rw [C7,List.drop_of_length_le (by omega)];rfl
 | k+1,i,e=>by
  have hi:i<xs.length:=by omega
  rw [C7,h i xs[i] (j4 hi),List.drop_eq_getElem_cons hi,List.findIdx?_cons]
  cases hp:p xs[i]
  ·rw [a8]
   show C7 f k (i+1) s=_
   rw [b1i h k (i+1) (by omega)]
   cases (xs.drop (i+1)).findIdx? p with
   | none=>rfl
   | some j=>simp;omega
  ·simp
theorem b2Z {α σ:Type}{xs:List α}(p:α→Bool){s:σ}{f:Nat→σ→Option (σ⊕Int)}(h: ∀i x,xs[i]? =some x→f i s=some (if p x then .inr (i:Int) else .inl s)):
  C7 f xs.length 0 s=some ((xs.findIdx? p).elim (.inl s) fun j=>.inr (j:Int)):=by
 rw [b1i h xs.length 0 (by omega),List.drop_zero]
 cases xs.findIdx? p<;>simp
theorem c1S {α:Type}(p:α→Bool)(xs:List α):(decide ((0:Int)≤((xs.findIdx? p).elim (-1:Int) fun j=>(j:Int))))=xs.any p:=by
 induction xs with
 | nil=>rfl
 | cons x r ih=>
  rw [List.findIdx?_cons,List.any_cons]
  cases hp:p x
  ·simp only [Bool.false_or,←ih]
   cases r.findIdx? p with
   | none=>rfl
   | some j=>simp;omega
  ·simp
end Go.Fk
namespace Go.Fk
open Go
theorem b2U {α β:Type}{xs:List α}{g:α→List β}{B:Nat}{f:Nat→List β→Option (List β)}(h: ∀i x acc,xs[i]? =some x→(acc++g x).length≤B→f i acc=some (acc++g x)):
  ∀k i acc,i+k=xs.length→(acc++(xs.drop i).flatMap g).length≤B→U6 f k i acc=some (acc++(xs.drop i).flatMap g)
 | 0,i,acc,e,hB=>by rw [U6,List.drop_of_length_le (by omega)];simp
 | k+1,i,acc,e,hB=>by
  have hi:i<xs.length:=by omega
  rw [List.drop_eq_getElem_cons hi,List.flatMap_cons,←List.append_assoc] at hB ⊢
  rw [U6,h i xs[i] acc (j4 hi) (by rw [n9] at hB;omega),a8]
  exact b2U h k (i+1) _ (by omega) hB
theorem a4s {α β:Type}{xs:List α}(g:α→List β)(B:Nat){f:Nat→List β→Option (List β)}(h: ∀i x acc,xs[i]? =some x→(acc++g x).length≤B→f i acc=some (acc++g x))(acc:List β)(hB:(acc++xs.flatMap g).length≤B):
  U6 f xs.length 0 acc=some (acc++xs.flatMap g):=by
 have:=b2U h xs.length 0 acc (by omega) (by rwa [List.drop_zero])
 rwa [List.drop_zero] at this
theorem b1g {α β:Type}{xs:List α}{g:α→List β}{B:Nat}{f:List β×Int→Option ((List β×Int)⊕List β)}(h: ∀(i:Nat) x acc,xs[i]? =some x→(acc++g x).length≤B→f (acc,(i:Int))=some (.inl (acc++g x,((i+1:Nat):Int))))
  (h0: ∀acc,f (acc,(xs.length:Int))=some (.inr acc)): ∀k i acc F,i+k=xs.length→k<F→(acc++(xs.drop i).flatMap g).length≤B→v8 f F (acc,(i:Int))=some (acc++(xs.drop i).flatMap g)
 | 0,i,acc,F,e,hF,hB=>by
  obtain⟨F,rfl⟩: ∃G,F=G+1:=⟨F-1,by omega⟩
  rw [v8,show i=xs.length by omega,h0,List.drop_of_length_le (Nat.le_refl _)];simp
 | k+1,i,acc,F,e,hF,hB=>by
  obtain⟨F,rfl⟩: ∃G,F=G+1:=⟨F-1,by omega⟩
  have hi:i<xs.length:=by omega
  rw [List.drop_eq_getElem_cons hi,List.flatMap_cons,←List.append_assoc] at hB ⊢
  rw [v8,h i xs[i] acc (j4 hi) (by rw [n9] at hB;omega),a8]
  exact b1g h h0 k (i+1) _ F (by omega) (by omega) hB
theorem a9E {α β:Type}{xs:List α}(g:α→List β)(B:Nat){f:List β×Int→Option ((List β×Int)⊕List β)}(F:Nat)(hF:xs.length<F)(h: ∀(i:Nat) x acc,xs[i]? =some x→(acc++g x).length≤B→f (acc,(i:Int))=some (.inl (acc++g x,((i+1:Nat):Int))))
  (h0: ∀acc,f (acc,(xs.length:Int))=some (.inr acc))(acc:List β)(hB:(acc++xs.flatMap g).length≤B):v8 f F (acc,(0:Int))=some (acc++xs.flatMap g):=by
 have:=b1g h h0 xs.length 0 acc F (by omega) hF (by rwa [List.drop_zero])
 rwa [List.drop_zero] at this
theorem a9F {α σ:Type}{xs:List α}{g:σ→α→σ}{f:Nat→σ→Option σ}(h: ∀i x s,xs[i]? =some x→f i s=some (g s x)): ∀k i s,i+k=xs.length→U6 f k i s=some ((xs.drop i).foldl g s)
 | 0,i,s,e=>by rw [U6,List.drop_of_length_le (by omega)];rfl
 | k+1,i,s,e=>by
  have hi:i<xs.length:=by omega
  rw [U6,h i xs[i] s (j4 hi),List.drop_eq_getElem_cons hi,a8,List.foldl_cons]
  exact a9F h k (i+1) _ (by omega)
theorem a8m {α σ:Type}{xs:List α}(g:σ→α→σ){f:Nat→σ→Option σ}(h: ∀i x s,xs[i]? =some x→f i s=some (g s x))(s:σ):U6 f xs.length 0 s=some (xs.foldl g s):=by
 have:=a9F h xs.length 0 s (by omega)
 rwa [List.drop_zero] at this
theorem W3 {α β:Type}{g:α→List β}{m:Nat}: ∀(xs:List α),(∀x∈xs,(g x).length≤m)→(xs.flatMap g).length≤xs.length*m
 | [],_=>by simp
 | x::r,h=>by
  have h1:=h x (List.mem_cons_self ..)
  have h2:=W3 r fun y hy=>h y (List.mem_cons_of_mem _ hy)
  rw [List.flatMap_cons,n9,r4,Nat.add_mul];omega
end Go.Fk
set_option linter.unusedVariables false
set_option maxRecDepth 100000
namespace Go.Fk
open Go
theorem b7O (m n:Nat):((m:Int)).tmod (n:Int)=((m%n:Nat):Int):=by rw [←Int.ofNat_tmod]
theorem a5F (m n:Nat):((m:Int)).tdiv (n:Int)=((m/n:Nat):Int):=by rw [←Int.ofNat_tdiv]
theorem c0c {f:Int×Int→Option ((Int×Int)⊕Int)}(hf:f=fun (s11:Int×Int)=>(cond (!(s11.2==(0:Int))) (Option.bind (a42 s11.1 s11.2) fun x26=>(some (.inl (s11.2,x26)))) (some (.inr s11.1)))): ∀(n m F:Nat),n<F→v8 f F ((m:Int),(n:Int))=some ((Nat.gcd m n:Nat):Int):=by
 intro n
 induction n using Nat.strongRecOn with
 | _ n ih=>
  intro m F hF
  obtain⟨F,rfl⟩: ∃G,F=G+1:=⟨F-1,by omega⟩
  rw [v8]
  by_cases h:n=0
  ·subst h
   rw [hf];simp
  ·have h1:f ((m:Int),(n:Int))=some (.inl ((n:Int),((m%n:Nat):Int))):=by
    rw [hf]
    dsimp only
    rw [beq_eq_false_iff_ne.2 (by omega),Bool.not_false,i9]
    unfold a42
    rw [if_neg (by omega),a8,b7O]
   have hlt:m%n<n:=Nat.mod_lt _ (by omega)
   rw [h1]
   show v8 f F _=_
   rw [ih (m%n) hlt n F (by omega),Nat.gcd_comm n,←Nat.gcd_rec,Nat.gcd_comm]
theorem b6I (F:Nat)(m n:Nat)(hm:m≤1000000000000)(hn:n≤1000000000000)(hF:n<F):a0H F (m:Int) (n:Int)=some ((Nat.gcd m n:Nat):Int):=by
 unfold a0H
 rw [c0c rfl n m F hF,a8,a8]
 have hg:Nat.gcd m n≤1000000000000:=by
  by_cases h:m=0
  ·subst h;rw [Nat.gcd_zero_left];exact hn
  ·exact Nat.le_trans (Nat.gcd_le_left n (by omega)) hm
 rw [B9 ⟨by omega,by omega⟩,if_neg (by omega)]
theorem b7A: ∀(F n m:Nat),n<F→m≤1000000000000→n≤1000000000000→a0x F (m:Int) (n:Int)=some ((Nat.gcd m n:Nat):Int)
 | 0,n,m,h,_,_=>by omega
 | F+1,n,m,h,hm,hn=>by
  rw [a0x]
  dsimp only
  rw [c6 (by omega),i6,a8]
  by_cases h0:n=0
  ·subst h0;simp
  ·rw [beq_eq_false_iff_ne.2 (by omega),i6]
   unfold a42
   have hlt:m%n<n:=Nat.mod_lt _ (by omega)
   rw [if_neg (by omega),a8,b7O,b7A F (m%n) n (by omega) (by omega) (by omega),Nat.gcd_comm n,←Nat.gcd_rec,Nat.gcd_comm];rfl
def b1P (a b:Nat):Int:=((a/Nat.gcd a b:Nat):Int)
def b1O (a b:Nat):Int:=((b/Nat.gcd a b:Nat):Int)
theorem b5I {a b:Nat}(hb:0<b):1≤b/Nat.gcd a b:=Nat.div_pos (Nat.gcd_le_right a hb) (Nat.gcd_pos_of_pos_right a hb)
theorem c3x {a b:Nat}(hb:0<b):Nat.gcd (a/Nat.gcd a b) (b/Nat.gcd a b)=1:=Nat.gcd_div_gcd_div_gcd_of_pos_right hb
theorem b1k (F a b:Nat)(ha:a≤1000000000)(hb:0<b∧b≤1000000000)(hF:1000000000<F):a2q F ⟨b1P a b,b1O a b⟩=some true:=by
 have h1:a/Nat.gcd a b≤a:=Nat.div_le_self _ _
 have h2:b/Nat.gcd a b≤b:=Nat.div_le_self _ _
 have h3:=b5I (a:=a) hb.1
 have h5:=c3x (a:=a) hb.1
 unfold a2q b1P b1O
 dsimp only
 generalize a/Nat.gcd a b=x at *
 generalize b/Nat.gcd a b=y at *
 rw [M7,b8 (by omega),b8 (by omega),a8,q8,i9,M7,b8 (by omega),b8 (by omega),a8,q8,i9,b6I F _ _ (by omega) (by omega) (by omega),a8,h5];rfl
theorem c3G (F a b:Nat)(ha:a≤1000000000)(hb:0<b∧b≤1000000000)(hF:1000000000<F):a3z F (a:Int) (b:Int)=some (⟨b1P a b,b1O a b⟩,true):=by
 have h1:a/Nat.gcd a b≤a:=Nat.div_le_self _ _
 have h2:b/Nat.gcd a b≤b:=Nat.div_le_self _ _
 have hg:=Nat.gcd_pos_of_pos_right a hb.1
 unfold a3z a4m
 rw [M7,b8 (by omega),b8 (by omega),a8,q8,l9,i6,M7,b8 (by omega),b8 (by omega),a8,q8,l9,i6,a8,beq_eq_false_iff_ne.2 (by omega),i6,c6 (by omega),i6,a8]
 dsimp only
 rw [b6I F a b (by omega) (by omega) (by omega),a8]
 unfold a3l
 rw [if_neg (by omega),a8,if_neg (by omega),a8,a5F,a5F]
 have:=b1k F a b ha hb hF
 unfold b1P b1O at this ⊢
 generalize a/Nat.gcd a b=x at *
 generalize b/Nat.gcd a b=y at *
 rw [B9 ⟨by omega,by omega⟩,B9 ⟨by omega,by omega⟩,this];rfl
theorem c3H (F a b:Nat)(ha:a≤1000000000)(hb:0<b∧b≤1000000000)(hF:1000000000<F):a12 F (a:Int) (b:Int)=some ⟨b1P a b,b1O a b⟩:=by
 have h1:a/Nat.gcd a b≤a:=Nat.div_le_self _ _
 have h2:b/Nat.gcd a b≤b:=Nat.div_le_self _ _
 have hg:=Nat.gcd_pos_of_pos_right a hb.1
 unfold a12
 rw [c6 (by omega),i6,a8]
 dsimp only
 rw [b7A F b a (by omega) (by omega) (by omega),a8]
 unfold a3l
 rw [if_neg (by omega),a8,if_neg (by omega),a8,a5F,a5F]
 unfold b1P b1O
 generalize a/Nat.gcd a b=x at *
 generalize b/Nat.gcd a b=y at *
 rw [B9 ⟨by omega,by omega⟩,B9 ⟨by omega,by omega⟩]
def b4P (a b:Nat):Nat:=a/Nat.gcd a b*1000/(b/Nat.gcd a b)
theorem b8a (F a b:Nat)(ha:a≤1000000000)(hb:0<b∧b≤1000000000)(hF:1000000000<F):a1k F ⟨b1P a b,b1O a b⟩ 1000=some ((b4P a b:Nat):Int):=by
 have h1:a/Nat.gcd a b≤a:=Nat.div_le_self _ _
 have h3:=b5I (a:=a) hb.1
 have h4:a/Nat.gcd a b*1000/(b/Nat.gcd a b)≤a/Nat.gcd a b*1000:=Nat.div_le_self _ _
 unfold a1k
 rw [b1k F a b ha hb hF,a8,l9,i6,M7,a8,a8]
 unfold b1P b1O b4P
 dsimp only
 generalize a/Nat.gcd a b=x at *
 generalize b/Nat.gcd a b=y at *
 have e:(x:Int)*1000=((x*1000:Nat):Int):=by push_cast;rfl
 rw [e,B9 ⟨by omega,by omega⟩]
 rw [b8 (show (1:Int)≤1000 by omega),b8 (show (1000:Int)≤1000 by omega),q8,l9,i6,b8 (by omega),i9]
 unfold a3l
 generalize hz:x*1000/y=z at *
 rw [if_neg (by omega),a8,a5F,hz,B9 ⟨by omega,by omega⟩]
theorem b8J (a b:Nat)(ha:a≤1000000000)(hb:0<b∧b≤1000000000):(Option.bind (a3l (A1 (b1P a b*(1000:Int))) (b1O a b)) fun x225=>(some x225))=some ((b4P a b:Nat):Int):=by
 have h1:a/Nat.gcd a b≤a:=Nat.div_le_self _ _
 have h3:=b5I (a:=a) hb.1
 have h4:a/Nat.gcd a b*1000/(b/Nat.gcd a b)≤a/Nat.gcd a b*1000:=Nat.div_le_self _ _
 unfold b1P b1O b4P
 generalize a/Nat.gcd a b=x at *
 generalize b/Nat.gcd a b=y at *
 have e:(x:Int)*1000=((x*1000:Nat):Int):=by push_cast;rfl
 rw [e,B9 ⟨by omega,by omega⟩]
 unfold a3l
 generalize hz:x*1000/y=z at *
 rw [if_neg (by omega),a8,a5F,hz,B9 ⟨by omega,by omega⟩]
def a2D:Nat→Nat→Nat→Nat
 | 0,_,_=>0
 | k+1,df,docs=>if 2*df≤docs then a2D k (2*df) docs+1 else 0
theorem a93: ∀k df docs,a2D k df docs≤k
 | 0,_,_=>Nat.le_refl _
 | k+1,df,docs=>by
  have:=a93 k (2*df) docs
  unfold a2D
  split<;>omega
theorem b0a {f:Int×Int→Option ((Int×Int)⊕Int)}(docs:Nat)(hd:docs≤100)(hf:f=fun (s11:Int×Int)=>(Option.bind ((cond (decide ((0:Int)<s11.1)) (some (decide ((A1 (s11.1*(2:Int)))≤(docs:Int)))) (some false)):Option Bool) fun o24=>(cond o24 (some (.inl ((A1 (s11.1*(2:Int))),(A1 (s11.2+(1:Int)))))) (some (.inr s11.2))))):
  ∀(k df n F:Nat),0<df→docs<df*2 ^ k→k<F→n+k≤1000→df≤1000→v8 f F ((df:Int),(n:Int))=some ((n+a2D k df docs:Nat):Int)
 | 0,df,n,F,h0,hk,hF,hn,hdf=>by
  obtain⟨F,rfl⟩: ∃G,F=G+1:=⟨F-1,by omega⟩
  have h1:f ((df:Int),(n:Int))=some (.inr (n:Int)):=by
   rw [hf]
   dsimp only
   rw [b8 (by omega),i9,B9 ⟨by omega,by omega⟩,c6 (by simp at hk;omega)];rfl
  rw [v8,h1];rfl
 | k+1,df,n,F,h0,hk,hF,hn,hdf=>by
  obtain⟨F,rfl⟩: ∃G,F=G+1:=⟨F-1,by omega⟩
  rw [v8]
  by_cases h:2*df≤docs
  ·have h1:f ((df:Int),(n:Int))=some (.inl (((2*df:Nat):Int),((n+1:Nat):Int))):=by
    rw [hf]
    dsimp only
    rw [b8 (by omega),i9,B9 ⟨by omega,by omega⟩,b8 (by omega),y2 (by omega),a8,i9]
    congr 3;push_cast;omega
   rw [h1]
   show v8 f F _=_
   rw [b0a docs hd hf k (2*df) (n+1) F (by omega) (by rw [Nat.pow_succ] at hk;rw [Nat.mul_comm 2 df,Nat.mul_assoc,Nat.mul_comm 2];exact hk) (by omega) (by omega) (by omega)]
   rw [a2D,if_pos h]
   congr 1;omega
  ·have h1:f ((df:Int),(n:Int))=some (.inr (n:Int)):=by
    rw [hf]
    dsimp only
    rw [b8 (by omega),i9,B9 ⟨by omega,by omega⟩,c6 (by omega)];rfl
   rw [h1,a2D,if_neg h];rfl
theorem c0T (F df docs:Nat)(h0:0<df)(hd:df≤docs)(h16:docs≤16)(hF:100<F):a15 F (df:Int) (docs:Int)=some ((a2D 5 df docs:Nat):Int):=by
 unfold a15
 have:=b0a docs (by omega) rfl 5 df 0 F h0 (by omega) (by omega) (by omega) (by omega)
 rw [Nat.zero_add] at this
 show (Option.bind (Option.bind (v8 _ F ((df:Int),((0:Nat):Int))) _) _)=_
 rw [this];rfl
theorem b5Y (df n:Nat)(hn:n≤20)(hdf:df≤16):c0H (df:Int) (A1 ((n:Int)+1))=some ((df*2 ^ n*2:Nat):Int):=by
 have hp:2 ^ n≤2 ^ 20:=Nat.pow_le_pow_right (by omega) hn
 have hq:df*2 ^ n≤16*2 ^ 20:=Nat.mul_le_mul hdf hp
 rw [y2 (by omega)]
 unfold c0H
 rw [if_neg (by omega),Int.toNat_natCast,Nat.min_eq_left (by omega),Int.pow_succ,←Int.mul_assoc]
 have e:(df:Int)*2 ^ n*2=((df*2 ^ n*2:Nat):Int):=by push_cast;rfl
 rw [e,B9 ⟨by omega,by omega⟩]
theorem a9J {f:Int→Option (Int⊕Int)}(df docs:Nat)(hd:docs≤16)(hdf:df≤16)(hf:f=fun (s75:Int)=>(Option.bind (c0H (df:Int) (A1 (s75+(1:Int)))) fun x87=>(cond (decide (x87≤(docs:Int))) (some (.inl (A1 (s75+(1:Int))))) (some (.inr s75))))):
  ∀(k n F:Nat),docs<df*2 ^ n*2 ^ k→k<F→n+k≤10→v8 f F (n:Int)=some ((n+a2D k (df*2 ^ n) docs:Nat):Int)
 | 0,n,F,hk,hF,hn=>by
  obtain⟨F,rfl⟩: ∃G,F=G+1:=⟨F-1,by omega⟩
  rw [Nat.pow_zero,Nat.mul_one] at hk
  have h1:f (n:Int)=some (.inr (n:Int)):=by
   rw [hf]
   dsimp only
   rw [b5Y df n (by omega) hdf,a8,c6 (by omega)];rfl
  rw [v8,h1];rfl
 | k+1,n,F,hk,hF,hn=>by
  obtain⟨F,rfl⟩: ∃G,F=G+1:=⟨F-1,by omega⟩
  rw [v8]
  by_cases h:2*(df*2 ^ n)≤docs
  ·have h1:f (n:Int)=some (.inl ((n+1:Nat):Int)):=by
    rw [hf]
    dsimp only
    rw [b5Y df n (by omega) hdf,a8,b8 (by omega),y2 (by omega)];rfl
   have e:df*2 ^ (n+1)=2*(df*2 ^ n):=by rw [Nat.pow_succ,←Nat.mul_assoc,Nat.mul_comm 2]
   rw [h1]
   show v8 f F _=_
   rw [a9J df docs hd hdf hf k (n+1) F (by rw [e,Nat.mul_comm 2,Nat.mul_assoc,←Nat.pow_succ'];exact hk) (by omega) (by omega),e]
   rw [a2D,if_pos h]
   congr 1;omega
  ·have h1:f (n:Int)=some (.inr (n:Int)):=by
    rw [hf]
    dsimp only
    rw [b5Y df n (by omega) hdf,a8,c6 (by omega)];rfl
   rw [h1,a2D,if_neg h];rfl
def upN (tf docs df:Nat):Nat:=22*tf*(a2D 5 df docs+1)
def a7y (tf long total docs:Nat):Nat:=10*tf+3+9*long*docs/total
structure a4n (tf long total docs df:Nat):Prop where
 h1:1≤tf∧tf≤80
 h2:tf≤long∧long≤80
 h3:long≤total∧total≤1280
 h4:1≤docs∧docs≤16
 h5:1≤df∧df≤docs
theorem b7Q {tf long total docs df:Nat}(h:a4n tf long total docs df):upN tf docs df≤1000000:=by
 have h1:=a93 5 df docs
 have h2:=h.h1
 unfold upN
 calc 22*tf*(a2D 5 df docs+1)≤22*80*6:=Nat.mul_le_mul (by omega) (by omega)
  _≤1000000:=by decide
theorem b2n {tf long total docs df:Nat}(h:a4n tf long total docs df):0<a7y tf long total docs∧a7y tf long total docs≤1000000:=by
 have h2:=h.h1
 have h3:9*long*docs/total≤9*long*docs:=Nat.div_le_self _ _
 have h4:9*long*docs≤9*80*16:=Nat.mul_le_mul (by have:=h.h2;omega) (by have:=h.h4;omega)
 unfold a7y
 generalize 9*long*docs/total=q at *
 omega
theorem a4w {a b:Nat}(h:a*b≤1000000000000000):A1 ((a:Int)*(b:Int))=((a*b:Nat):Int):=by
 have e:(a:Int)*(b:Int)=((a*b:Nat):Int):=by push_cast;rfl
 rw [e,b2J (by omega)]
theorem a60 {a b:Nat}(h:a+b≤1000000000000000):A1 ((a:Int)+(b:Int))=((a+b:Nat):Int):=by
 have e:(a:Int)+(b:Int)=((a+b:Nat):Int):=by push_cast;rfl
 rw [e,b2J (by omega)]
theorem b9B {a b:Nat}(hb:0<b)(h:a≤1000000000000000):a3l (a:Int) (b:Int)=some ((a/b:Nat):Int):=by
 have:a/b≤a:=Nat.div_le_self _ _
 unfold a3l
 rw [if_neg (by omega),a5F,b2J (by omega)]
theorem c0q (F tf long total docs df:Nat)(h:a4n tf long total docs df)(hF:1000000000<F):a0F F (tf:Int) (long:Int) (total:Int) (docs:Int) (df:Int)=some (⟨b1P (upN tf docs df) (a7y tf long total docs),b1O (upN tf docs df) (a7y tf long total docs)⟩,true):=by
 obtain⟨⟨a1,a2⟩,⟨b1,b2⟩,⟨c1,c2⟩,⟨d1,d2⟩,⟨e1,e2⟩⟩:=h
 have hh:a4n tf long total docs df:=⟨⟨a1,a2⟩,⟨b1,b2⟩,⟨c1,c2⟩,⟨d1,d2⟩,⟨e1,e2⟩⟩
 have hu:=b7Q hh
 have hd:=b2n hh
 have hr:=a93 5 df docs
 unfold a0F
 simp only [M7,a8]
 rw [b8 (show (1:Int)≤(tf:Int) by omega),b8 (show (tf:Int)≤80 by omega),b8 (show (tf:Int)≤(long:Int) by omega),b8 (show (long:Int)≤80 by omega),b8 (show (1:Int)≤(docs:Int) by omega),b8 (show (docs:Int)≤16 by omega),b8 (show (1:Int)≤(df:Int) by omega),b8 (show (df:Int)≤(docs:Int) by omega),b8 (show (long:Int)≤(total:Int) by omega),b8 (show (total:Int)≤1280 by omega)]
 simp only [q8,l9,i6,a8]
 have hrare:=a9J df docs d2 (by omega) rfl 5 0 F (by simp;omega) (by omega) (by omega)
 rw [Nat.zero_add,Nat.pow_zero,Nat.mul_one] at hrare
 rw [show ((0:Int))=((0:Nat):Int) from rfl,hrare,a8]
 have hm4:9*long*docs≤9*80*16:=Nat.mul_le_mul (by omega) (by omega)
 have hq:9*long*docs/total≤9*long*docs:=Nat.div_le_self _ _
 have k1:A1 ((A1 ((9:Int)*(long:Int)))*(docs:Int))=((9*long*docs:Nat):Int):=by
  rw [show A1 ((9:Int)*(long:Int))=((9*long:Nat):Int) from a4w (a:=9) (by omega),a4w (by omega)]
 have hu2:22*tf*(a2D 5 df docs+1)≤1000000:=hu
 have k2:A1 ((A1 ((22:Int)*(tf:Int)))*(A1 (((a2D 5 df docs:Nat):Int)+1)))=((upN tf docs df:Nat):Int):=by
  rw [show A1 ((22:Int)*(tf:Int))=((22*tf:Nat):Int) from a4w (a:=22) (by omega),y2 (by omega),a4w (by omega)];rfl
 have k3:A1 ((A1 ((A1 ((10:Int)*(tf:Int)))+(3:Int)))+((9*long*docs/total:Nat):Int))=((a7y tf long total docs:Nat):Int):=by
  rw [show A1 ((10:Int)*(tf:Int))=((10*tf:Nat):Int) from a4w (a:=10) (by omega),show A1 (((10*tf:Nat):Int)+3)=((10*tf+3:Nat):Int) from a60 (b:=3) (by omega),a60 (by omega)];rfl
 rw [k1,b9B (by omega) (by omega),a8,a8,k2,k3,c3G F _ _ (by omega) ⟨hd.1,by omega⟩ hF];rfl
theorem c0U (F tf long total docs df:Nat)(h:a4n tf long total docs df)(hF:1000000000<F):a16 F (tf:Int) (long:Int) (total:Int) (docs:Int) (df:Int)=some ⟨b1P (upN tf docs df) (a7y tf long total docs),b1O (upN tf docs df) (a7y tf long total docs)⟩:=by
 obtain⟨⟨a1,a2⟩,⟨b1,b2⟩,⟨c1,c2⟩,⟨d1,d2⟩,⟨e1,e2⟩⟩:=h
 have hh:a4n tf long total docs df:=⟨⟨a1,a2⟩,⟨b1,b2⟩,⟨c1,c2⟩,⟨d1,d2⟩,⟨e1,e2⟩⟩
 have hu:=b7Q hh
 have hd:=b2n hh
 have hr:=a93 5 df docs
 unfold a16
 have hm4:long*docs*9≤80*16*9:=Nat.mul_le_mul_right _ (Nat.mul_le_mul (by omega) (by omega))
 have hm5:long*docs≤80*16:=Nat.mul_le_mul (by omega) (by omega)
 have e3:long*docs*9=9*long*docs:=by rw [Nat.mul_comm,Nat.mul_assoc]
 have hq:long*docs*9/total≤long*docs*9:=Nat.div_le_self _ _
 have k1:A1 ((A1 ((long:Int)*(docs:Int)))*(9:Int))=((long*docs*9:Nat):Int):=by
  rw [a4w (by omega)];exact a4w (b:=9) (by omega)
 have e7:22*tf*(a2D 5 df docs+1)=(1+a2D 5 df docs)*22*tf:=by rw [Nat.mul_comm (22*tf),Nat.add_comm,Nat.mul_assoc]
 have hu2:(1+a2D 5 df docs)*22*tf≤1000000:=by rw [←e7];exact hu
 have k2:A1 ((A1 ((A1 ((1:Int)+((a2D 5 df docs:Nat):Int)))*(22:Int)))*(tf:Int))=((upN tf docs df:Nat):Int):=by
  rw [show A1 ((1:Int)+((a2D 5 df docs:Nat):Int))=((1+a2D 5 df docs:Nat):Int) from a60 (a:=1) (by omega),show A1 (((1+a2D 5 df docs:Nat):Int)*22)=(((1+a2D 5 df docs)*22:Nat):Int) from a4w (b:=22) (by omega),a4w (by omega)]
  unfold upN;rw [e7]
 have k3:A1 ((A1 ((A1 ((10:Int)*(tf:Int)))+(3:Int)))+((long*docs*9/total:Nat):Int))=((a7y tf long total docs:Nat):Int):=by
  rw [e3];rw [e3] at hq
  rw [show A1 ((10:Int)*(tf:Int))=((10*tf:Nat):Int) from a4w (a:=10) (by omega),show A1 (((10*tf:Nat):Int)+3)=((10*tf+3:Nat):Int) from a60 (b:=3) (by omega),a60 (by omega)];rfl
 rw [b8 (by omega),i9,k1,b9B (by omega) (by omega),a8,a8,c0T F df docs e1 e2 d2 (by omega),a8,k2,k3,c3H F _ _ (by omega) ⟨hd.1,by omega⟩ hF];rfl
def c2w (tf long total docs df:Nat):Nat:=b4P (upN tf docs df) (a7y tf long total docs)
end Go.Fk
namespace Go.Fk
open Go
theorem b7T {a b:Int}(ha:0≤a)(ha':a≤9223372036854775807)(hb:0≤b)(hb':b≤9223372036854775807):0≤c1b a b:=by
 unfold c1b
 obtain⟨x,rfl⟩:=Int.eq_ofNat_of_zero_le ha
 obtain⟨y,rfl⟩:=Int.eq_ofNat_of_zero_le hb
 have hx:x ^^^ y<2 ^ 63:=Nat.xor_lt_two_pow (by omega) (by omega)
 have e:(BitVec.ofInt 64 (x:Int) ^^^ BitVec.ofInt 64 (y:Int)).toNat=x ^^^ y:=by
  rw [BitVec.toNat_xor]
  simp only [BitVec.ofInt_natCast,BitVec.toNat_ofNat]
  rw [Nat.mod_eq_of_lt (by omega),Nat.mod_eq_of_lt (by omega)]
 rw [e,B9 ⟨by omega,by omega⟩]
 omega
theorem b2w {α:Type}{xs:List α}{i:Int}(h0:0≤i)(h:i<xs.length): ∃x,u0 xs i=some x:=by
 unfold u0
 rw [if_pos h0]
 exact⟨_,j4 (by omega)⟩
def c1h (r:z2):Prop:=r.b_.length≤2000∧0≤r.p_∧r.p_≤1000000000
theorem H7 (F:Nat)(r:z2)(n:Int)(hr:c1h r): ∃x,y6 F r n=some (x,⟨r.b_,r.p_+1⟩)∧0≤x∧(1≤n→x<n):=by
 obtain⟨b,p⟩:=r
 obtain⟨hb,h0,h1⟩:=hr
 simp only at hb h0 h1
 unfold y6
 have e1:A1 (p+1)=p+1:=B9 ⟨by omega,by omega⟩
 have e2:A1 (p+1-1)=p:=by rw [B9 ⟨by omega,by omega⟩];omega
 dsimp only
 rw [e1,e2]
 by_cases hn:n<1
 ·rw [b8 hn,i9,a8,i9]
  exact⟨0,rfl,Int.le_refl _,fun h=>by omega⟩
 ·rw [c6 hn,i6,a8]
  cases b with
  | nil=>
   rw [show ((([]:List UInt8).length:Int)==(0:Int))=true from rfl,i9]
   exact⟨0,rfl,Int.le_refl _,fun h=>by omega⟩
  | cons c b=>
   have hl:(0:Int)<((c::b).length:Int):=by rw [r4];omega
   generalize (c::b)=b at *
   rw [show (((b.length:Int))==(0:Int))=false by rw [beq_eq_false_iff_ne];omega,i6]
   have hrem: ∀x:Int,0≤x→∃y,a42 x n=some y∧0≤y∧y<n:=fun x hx=>by
    refine⟨x.tmod n,by rw [a42,if_neg (by omega)],Int.tmod_nonneg _ hx,Int.tmod_lt_of_pos _ (by omega)⟩
   have hrb: ∀x:Int,0≤x→∃y,a42 x b.length=some y∧0≤y∧y<b.length:=fun x hx=>by
    refine⟨x.tmod b.length,by rw [a42,if_neg (by omega)],Int.tmod_nonneg _ hx,Int.tmod_lt_of_pos _ (by omega)⟩
   by_cases hp:p<b.length
   ·rw [b8 hp,i9]
    obtain⟨x,hx⟩:=b2w h0 hp
    obtain⟨y,hy,y0,y1⟩:=hrem (x.toNat:Int) (by omega)
    rw [hx,a8,hy,a8]
    exact⟨y,rfl,y0,fun _=>y1⟩
   ·rw [c6 hp,i6]
    obtain⟨i,hi,i0,i1⟩:=hrb p h0
    obtain⟨x,hx⟩:=b2w i0 i1
    have e7:A1 (p*7)=p*7:=B9 ⟨by omega,by omega⟩
    have e8:A1 (p*7+3)=p*7+3:=B9 ⟨by omega,by omega⟩
    obtain⟨j,hj,j0,j1⟩:=hrb (p*7+3) (by omega)
    obtain⟨y,hy⟩:=b2w j0 j1
    have hq: ∃q,a3l p b.length=some q∧0≤q∧q≤p:=by
     have q0:0≤p.tdiv b.length:=Int.tdiv_nonneg h0 (by omega)
     have q1:p.tdiv b.length≤p:=by rw [Int.tdiv_eq_ediv_of_nonneg h0];exact Int.ediv_le_self _ h0
     exact⟨p.tdiv b.length,by rw [a3l,if_neg (by omega),B9 ⟨by omega,by omega⟩],q0,q1⟩
    obtain⟨q,hq,q0,q1⟩:=hq
    have bx:=x.toNat_lt
    have by':=y.toNat_lt
    have f1:A1 ((x.toNat:Int)*131)=(x.toNat:Int)*131:=B9 ⟨by omega,by omega⟩
    have f2:A1 ((y.toNat:Int)*1117)=(y.toNat:Int)*1117:=B9 ⟨by omega,by omega⟩
    have f3:A1 (p*29)=p*29:=B9 ⟨by omega,by omega⟩
    have f4:A1 (q*53)=q*53:=B9 ⟨by omega,by omega⟩
    have f5:A1 ((x.toNat:Int)*131+(y.toNat:Int)*1117)=(x.toNat:Int)*131+(y.toNat:Int)*1117:=B9 ⟨by omega,by omega⟩
    have f6:A1 ((x.toNat:Int)*131+(y.toNat:Int)*1117+p*29)=(x.toNat:Int)*131+(y.toNat:Int)*1117+p*29:=B9 ⟨by omega,by omega⟩
    have f7:A1 ((x.toNat:Int)*131+(y.toNat:Int)*1117+p*29+q*53)=(x.toNat:Int)*131+(y.toNat:Int)*1117+p*29+q*53:=B9 ⟨by omega,by omega⟩
    rw [hi,a8,hx,a8,e7,e8,hj,a8,hy,a8,hq,a8,f1,f2,f3,f4,f5,f6,f7]
    generalize hz:(x.toNat:Int)*131+(y.toNat:Int)*1117+p*29+q*53=z
    have z0:0≤z:=by omega
    have z1:z≤1000000000000:=by omega
    have hd:a3l z 64=some (z/64):=by
     rw [a3l,if_neg (by decide),Int.tdiv_eq_ediv_of_nonneg z0,B9 ⟨by omega,by omega⟩]
    rw [a8,hd,a8]
    obtain⟨y,hy,y0,y1⟩:=hrem (c1b z (z/64)) (b7T z0 (by omega) (by omega) (by omega))
    rw [hy,a8]
    exact⟨y,rfl,y0,fun _=>y1⟩
theorem b2y (F:Nat)(code:List UInt8): ∃r,Y2 F code=some r∧r.b_.length≤2000∧r.p_=0:=by
 unfold Y2
 by_cases h:(2000:Int)<(code.length:Int)
 ·rw [b8 h,i9]
  unfold Y9
  rw [if_pos ⟨by decide,by decide,by omega⟩]
  refine⟨_,rfl,?_,rfl⟩
  simp
  omega
 ·rw [c6 h,i6]
  exact⟨_,rfl,by simp only;omega,rfl⟩
end Go.Fk
namespace Go.Fk
open Go
theorem a9Q (F:Nat)(r:z2)(l:List q9)(hr:c1h r)(hl:l≠[]): ∃s∈l,J2 F r l=some (s,⟨r.b_,r.p_+1⟩):=by
 unfold J2
 have hpos:0<l.length:=List.length_pos_iff.2 hl
 obtain⟨x,hx,x0,x1⟩:=H7 F r (l.length:Int) hr
 have x1:=x1 (by omega)
 rw [hx,a8]
 unfold u0
 rw [if_pos x0,j4 (show x.toNat<l.length by omega)]
 exact⟨_,List.getElem_mem _,rfl⟩
end Go.Fk
namespace Go.Fk
open Go
theorem b0T (F:Nat)(r:z2)(l:List Int)(hr:c1h r)(hl:l≠[]): ∃s∈l,P8 F r l=some (s,⟨r.b_,r.p_+1⟩):=by
 unfold P8
 have hpos:0<l.length:=List.length_pos_iff.2 hl
 obtain⟨x,hx,x0,x1⟩:=H7 F r (l.length:Int) hr
 have x1:=x1 (by omega)
 rw [hx,a8]
 unfold u0
 rw [if_pos x0,j4 (show x.toNat<l.length by omega)]
 exact⟨_,List.getElem_mem _,rfl⟩
end Go.Fk
namespace Go.Fk
open Go
theorem c5n (F:Nat)(r:z2)(hr:c1h r): ∃s,a2R F r=some (s,⟨r.b_,r.p_+1⟩)∧s.length≤17:=by
 unfold a2R
 obtain⟨s,hm,hs⟩:=a9Q F r (l:=([([99,97,116]:q9),([67,97,116,115]:q9),([100,111,103]:q9),([100,111,103,115]:q9),([114,117,110]:q9),([82,85,78,78,73,78,71]:q9),([116,104,101]:q9),([114,101,100]:q9),([98,105,103]:q9),([110,101,119,32,121,111,114,107]:q9),([78,101,119,32,32,89,111,114,107]:q9),([110,121]:q9),([102,111,120]:q9),([112,97,115,115,101,100]:q9),([120,49]:q9),([97,118,101,114,121,118,101,114,121,108,111,110,103,119,111,114,100]:q9)]:List q9)) hr (by simp)
 rw [hs]
 exact⟨s,rfl,(by decide : ∀s∈([([99,97,116]:q9),([67,97,116,115]:q9),([100,111,103]:q9),([100,111,103,115]:q9),([114,117,110]:q9),([82,85,78,78,73,78,71]:q9),([116,104,101]:q9),([114,101,100]:q9),([98,105,103]:q9),([110,101,119,32,121,111,114,107]:q9),([78,101,119,32,32,89,111,114,107]:q9),([110,121]:q9),([102,111,120]:q9),([112,97,115,115,101,100]:q9),([120,49]:q9),([97,118,101,114,121,118,101,114,121,108,111,110,103,119,111,114,100]:q9)]:List q9),s.length≤17) s hm⟩
theorem b55 (F:Nat)(r:z2)(hr:r.b_.length≤2000∧0≤r.p_∧r.p_≤1000000)(hF:20≤F): ∃s p,T5 F r=some (s,⟨r.b_,p⟩)∧r.p_≤p∧p≤r.p_+100∧s.length≤200:=by
 obtain⟨h1,h2,h3⟩:=hr
 unfold T5
 obtain⟨n,hn,n0,n1⟩:=H7 F r 9 ⟨h1,h2,by omega⟩
 have n1:=n1 (by decide)
 rw [hn,a8]
 simp only
 generalize hf:(fun (s34:q9×Int×z2)=>_:q9×Int×z2→Option ((q9×Int×z2)⊕(q9×z2)))=f
 have key: ∀(k:Nat) (s:q9) (p:Int) (F:Nat),k+1≤F→0≤p→p+2*k≤2000000→s.length+19*k≤19*8→k≤8→∃s' p',v8 f F (s,(k:Int),⟨r.b_,p⟩)=some (s',⟨r.b_,p'⟩)∧p≤p'∧p'≤p+2*k∧s'.length≤s.length+19*k:=by
  intro k
  induction k with
  | zero=>
   intro s p F hF _ _ _ _
   obtain⟨F,rfl⟩: ∃G,F=G+1:=⟨F-1,by omega⟩
   rw [v8]
   subst hf
   exact⟨s,p,rfl,by omega,by omega,by omega⟩
  | succ k ih=>
   intro s p F' hF' p0 p1 hs hk
   obtain⟨F',rfl⟩: ∃G,F'=G+1:=⟨F'-1,by omega⟩
   obtain⟨a,ha,hal⟩:=c5n F ⟨r.b_,p⟩ ⟨h1,p0,by simp only;omega⟩
   obtain⟨b,hbm,hb⟩:=a9Q F ⟨r.b_,p+1⟩ ([([32]:q9),([32]:q9),([44,32]:q9),([45]:q9),([46,32]:q9)]:List q9) ⟨h1,by simp only;omega,by simp only;omega⟩ (by simp)
   have hbl:b.length≤2:=(by decide : ∀s∈([([32]:q9),([32]:q9),([44,32]:q9),([45]:q9),([46,32]:q9)]:List q9),s.length≤2) b hbm
   have hstep:f (s,((k+1:Nat):Int),⟨r.b_,p⟩)=some (.inl (s++a++b,(k:Int),⟨r.b_,p+1+1⟩)):=by
    rw [←hf]
    simp only
    rw [b8 (by omega),i9,ha,a8]
    simp only
    have hm:1000≤maxLen:=by decide
    have c1:a8W s a=some (s++a):=by rw [a8W,if_pos (by omega)]
    have c2:a8W (s++a) b=some (s++a++b):=by rw [a8W,if_pos (by rw [n9];omega)]
    have c3:A1 (((k+1:Nat):Int)-1)=(k:Int):=by rw [B9 ⟨by omega,by omega⟩];omega
    rw [c1,a8,hb,a8]
    simp only
    rw [c2,a8,c3]
   rw [v8,hstep]
   simp only [a8,Sum.elim_inl]
   obtain⟨s',p',hw,a1,a2,a3⟩:=ih (s++a++b) (p+1+1) F' (by omega) (by omega) (by omega) (by simp only [n9];omega) (by omega)
   refine⟨s',p',hw,by omega,by omega,?_⟩
   simp only [n9] at a3
   omega
 obtain⟨k,rfl⟩:=Int.eq_ofNat_of_zero_le n0
 obtain⟨s',p',hw,a1,a2,a3⟩:=key k [] (r.p_+1) F (by omega) (by omega) (by omega) (by simp only [List.length_nil];omega) (by omega)
 rw [hw]
 exact⟨s',p',rfl,by omega,by omega,by simp only [List.length_nil] at a3;omega⟩
end Go.Fk
namespace Go.Fk
open Go
def a8h (b:UInt8):Bool:= !(decide (b<32)||decide (126<b))
def a2o (s:q9):Bool:=s.all a8h&&decide ((s.length:Int)≤160)
theorem b0z (F:Nat)(s:q9):a0w F s=some (a2o s):=by
 unfold a0w a2o
 rw [a0k (p:=a8h) (xs:=s) (fun i x hx=>?_) s.length 0 (by omega),List.drop_zero]
 ·cases s.all a8h<;>rfl
 ·rw [n5,hx,a8]
  unfold a8h
  cases decide (x<(32:UInt8))
  ·rw [i6,a8,a8]
   cases decide ((126:UInt8)<x)<;>rfl
  ·rfl
theorem c0V (F:Nat)(s:q9)(hF:s.length<F)(hl:s.length≤2000000):a2O F s=some (a2o s):=by
 unfold a2O a2o
 have key:=fun f h h0=>a6n (p:=a8h) (xs:=s) (f:=f) h h0 s.length 0 F (by omega) hF
 rw [show (0:Int)=((0:Nat):Int) from rfl,key _ (fun i x hx=>?_) ?_,List.drop_zero]
 ·cases s.all a8h<;>rfl
 ·rw [c6 (by omega)];rfl
 ·have hi:=(i4.1 hx).1
  rw [b8 (by omega),i9,n5,hx,a8,y2 (by omega)]
  unfold a8h
  cases decide (x<(32:UInt8))
  ·rw [i6,a8,a8]
   cases decide ((126:UInt8)<x)<;>rfl
  ·rfl
def a4S (f:O0):Bool:=D0 f.Name&&a2o f.Text
def a4r (f g:O0):Bool:=C4 f.Name g.Name
def a5W (a:a4x):Bool:=D0 a.Name&&(decide (0≤a.Num)&&decide (a.Num≤999999999))
def a7v (f g:a4x):Bool:=C4 f.Name g.Name
def a3h (d:y5):Bool:=(a1U a4S a4r d.Fields&&a1U a5W a7v d.Nums)&&((decide (1≤d.Id)&&decide (d.Id≤9999))&&(decide ((d.Fields.length:Int)≤3)&&decide ((d.Nums.length:Int)≤3)))
theorem a81 (a b:Int):decide (a<b)= !decide (b≤a):=by
 by_cases h:a<b
 ·rw [b8 h,c6 (by omega)];rfl
 ·rw [c6 h,b8 (by omega)];rfl
theorem a9I (F:Nat)(d:y5):a01 F d=some (a3h d):=by
 unfold a01 a3h
 rw [M7,a8]
 cases hid:(decide (1≤d.Id)&&decide (d.Id≤9999)) with
 | false=>rw [Bool.false_and,Bool.and_false];rfl
 | true=>
  rw [l9,i6,a81 3 (d.Fields.length:Int),a81 3 (d.Nums.length:Int)]
  by_cases hf:(d.Fields.length:Int)≤3
  ·by_cases hn:(d.Nums.length:Int)≤3
   ·rw [b8 hf,b8 hn]
    simp only [l9,i6,a8]
    rw [a47 (ok:=a4S) (lt:=a4r) (xs:=d.Fields) (fun i x hx=>?_)]
    ·cases a1U a4S a4r d.Fields with
     | false=>rfl
     | true=>
      simp only [if_true,a8,Sum.elim_inl]
      rw [a47 (ok:=a5W) (lt:=a7v) (xs:=d.Nums) (fun i x hx=>?_)]
      ·cases a1U a5W a7v d.Nums<;>rfl
      ·have hi:=(i4.1 hx).1
       rw [n5,hx,a8,M0,a8]
       unfold a5W a7v
       cases D0 x.Name with
       | false=>rfl
       | true=>
        rw [l9,i6,M7,a8]
        cases (decide (0≤x.Num)&&decide (x.Num≤999999999)) with
        | false=>rfl
        | true=>
         by_cases h0:i=0
         ·subst h0;rfl
         ·rw [l9,i6,b8 (show (0:Int)<(i:Int) by omega),i9,V5 (by omega) (by omega),n5,j4 (show i-1<d.Nums.length by omega),a8,c6 h0]
          simp only [Option.elim_some,Bool.false_or]
          cases C4 d.Nums[i-1].Name x.Name<;>rfl
    ·have hi:=(i4.1 hx).1
     rw [n5,hx,a8,M0,a8]
     unfold a4S a4r
     cases D0 x.Name with
     | false=>rfl
     | true=>
      rw [l9,i6,b0z,a8]
      cases a2o x.Text with
      | false=>rfl
      | true=>
       by_cases h0:i=0
       ·subst h0;rfl
       ·rw [l9,i6,b8 (show (0:Int)<(i:Int) by omega),i9,V5 (by omega) (by omega),n5,j4 (show i-1<d.Fields.length by omega),a8,c6 h0]
        simp only [Option.elim_some,Bool.false_or]
        cases C4 d.Fields[i-1].Name x.Name<;>rfl
   ·rw [b8 hf,c6 hn,Bool.and_false,Bool.and_false,Bool.and_false];rfl
  ·rw [c6 hf,Bool.false_and,Bool.and_false,Bool.and_false];rfl
structure a7o (d:y5):Prop where
 fields:d.Fields.length≤100
 nums:d.Nums.length≤100
 field: ∀f∈d.Fields,f.Name.length≤1000∧f.Text.length≤1000
 num: ∀a∈d.Nums,a.Name.length≤1000
structure b7V (B:Nat)(d:y5):Prop where
 fields:d.Fields.length≤B
 nums:d.Nums.length≤B
 field: ∀f∈d.Fields,f.Name.length≤B∧f.Text.length≤B
 num: ∀a∈d.Nums,a.Name.length≤B
theorem c0K (F B:Nat)(d:y5)(hd:b7V B d)(hB:B≤2000000)(hF:B+20<F):a4B F d=some (a3h d):=by
 have hm:10000000≤maxLen:=by decide
 obtain⟨b1,b2,b3,b4⟩:=hd
 unfold a4B a3h
 rw [a5y (ok:=a4S) (lt:=a4r) (xs:=d.Fields) (fun i x hx=>?_) ?_ F (by omega)]
 ·cases a1U a4S a4r d.Fields with
  | false=>rfl
  | true=>
   simp only [if_true,a8,Sum.elim_inl]
   rw [a5y (ok:=a5W) (lt:=a7v) (xs:=d.Nums) (fun i x hx=>?_) ?_ F (by omega)]
   ·cases a1U a5W a7v d.Nums with
    | false=>rfl
    | true=>
     simp only [if_true,a8,Sum.elim_inl,q8]
     rw [inS,a8]
     cases (decide (1≤d.Id)&&decide (d.Id≤9999)) with
     | false=>rfl
     | true=>
      rw [i9,inS,a8,b8 (show (0:Int)≤(d.Fields.length:Int) by omega),q8]
      cases decide ((d.Fields.length:Int)≤3)<;>rfl
   ·rw [c6 (by omega)];rfl
   ·have hi:=(i4.1 hx).1
    have hb:=b4 x (l7 hx)
    rw [b8 (by omega),i9,n5,hx,a8,b00 F _ (by omega) (by omega),a8,y2 (by omega)]
    unfold a5W a7v
    cases D0 x.Name with
    | false=>rfl
    | true=>
     rw [l9,i6,a8,inS,a8]
     cases (decide (0≤x.Num)&&decide (x.Num≤999999999)) with
     | false=>rfl
     | true=>
      by_cases h0:i=0
      ·subst h0;rfl
      ·have ht:=a6v d.Nums[i-1].Name x.Name
       rw [l9,i6,b8 (show (0:Int)<(i:Int) by omega),i9,a8,V5 (by omega) (by omega),n5,j4 (show i-1<d.Nums.length by omega),a8,c6 h0,←ht]
       simp only [Option.elim_some,Bool.false_or]
       cases C4 d.Nums[i-1].Name x.Name<;>rfl
 ·rw [c6 (by omega)];rfl
 ·have hi:=(i4.1 hx).1
  have hb:=b3 x (l7 hx)
  rw [b8 (by omega),i9,n5,hx,a8,b00 F _ (by omega) (by omega),a8,y2 (by omega)]
  unfold a4S a4r
  cases D0 x.Name with
  | false=>rfl
  | true=>
   rw [l9,i6,c0V F _ (by omega) (by omega),a8]
   cases a2o x.Text with
   | false=>rfl
   | true=>
    by_cases h0:i=0
    ·subst h0;rfl
    ·have ht:=a6v d.Fields[i-1].Name x.Name
     rw [l9,i6,b8 (show (0:Int)<(i:Int) by omega),i9,V5 (by omega) (by omega),n5,j4 (show i-1<d.Fields.length by omega),a8,c6 h0,←ht]
     simp only [Option.elim_some,Bool.false_or]
     cases C4 d.Fields[i-1].Name x.Name<;>rfl
def b09 (a b:y5):Bool:=decide (a.Id<b.Id)
def Z6 (ds:List y5):Bool:=a1U a3h b09 ds&&decide ((ds.length:Int)≤16)
theorem b0y (F:Nat)(ds:List y5)(hl:ds.length<9000000000000000000):a0v F ds=some (Z6 ds):=by
 unfold a0v Z6
 rw [a47 (ok:=a3h) (lt:=b09) (xs:=ds) (fun i x hx=>?_)]
 ·cases a1U a3h b09 ds<;>rfl
 ·have hi:=(i4.1 hx).1
  rw [n5,hx,a8,a9I,a8]
  unfold b09
  cases a3h x with
  | false=>rfl
  | true=>
   by_cases h0:i=0
   ·subst h0;rfl
   ·rw [l9,i6,b8 (show (0:Int)<(i:Int) by omega),i9,V5 (by omega) (by omega),n5,j4 (show i-1<ds.length by omega),a8,c6 h0]
    simp only [Option.elim_some,Bool.false_or]
    rw [a81 ds[i-1].Id x.Id]
    cases decide (x.Id≤ds[i-1].Id)<;>rfl
structure Q2 (ds:List y5):Prop where
 few:ds.length≤100
 doc: ∀d∈ds,a7o d
theorem b8G (F B:Nat)(ds:List y5)(hl:ds.length≤B)(hd: ∀d∈ds,b7V B d)(hB:B≤2000000)(hF:B+20<F):a2T F ds=some (Z6 ds):=by
 unfold a2T Z6
 rw [a5y (ok:=a3h) (lt:=b09) (xs:=ds) (fun i x hx=>?_) ?_ F (by omega)]
 ·cases a1U a3h b09 ds<;>rfl
 ·rw [c6 (by omega)];rfl
 ·have hi:=(i4.1 hx).1
  rw [b8 (by omega),i9,n5,hx,a8,c0K F B x (hd x (l7 hx)) hB hF,a8,y2 (by omega)]
  unfold b09
  cases a3h x with
  | false=>rfl
  | true=>
   by_cases h0:i=0
   ·subst h0;rfl
   ·rw [l9,i6,b8 (show (0:Int)<(i:Int) by omega),i9,a8,V5 (by omega) (by omega),n5,j4 (show i-1<ds.length by omega),a8,c6 h0]
    simp only [Option.elim_some,Bool.false_or,a8]
    rw [a81 ds[i-1].Id x.Id]
    cases decide (x.Id≤ds[i-1].Id)<;>rfl
theorem a3J {ds:List y5}(h:Z6 ds=true):ds.length≤16∧(∀d∈ds,1≤d.Id∧d.Id≤9999)∧ds.Pairwise fun a b=>a.Id<b.Id:=by
 unfold Z6 at h
 rw [l8,decide_eq_true_iff] at h
 obtain⟨h1,h2⟩:=a3Q h.1
 refine⟨by omega,fun d hd=>?_,?_⟩
 ·have:=h1 d hd
  unfold a3h at this
  simp only [l8,decide_eq_true_iff] at this
  exact this.2.1
 ·have gen: ∀l:List y5,(∀i,(hi:i+1<l.length)→l[i].Id<l[i+1].Id)→l.Pairwise fun a b=>a.Id<b.Id:=by
   intro l
   induction l with
   | nil=>intro _;exact List.Pairwise.nil
   | cons a l ih=>
    intro hl
    have ih':=ih (fun i hi=>by have:=hl (i+1) (by simp only [r4];omega);simpa using this)
    refine List.pairwise_cons.2 ⟨fun c hc=>?_,ih'⟩
    cases l with
    | nil=>cases hc
    | cons b l=>
     have hab:a.Id<b.Id:=hl 0 (by simp)
     rcases List.mem_cons.1 hc with rfl | hc
     ·exact hab
     ·have:=(List.pairwise_cons.1 ih').1 c hc;omega
  refine gen ds fun i hi=>?_
  have:=h2 i hi
  unfold b09 at this
  exact of_decide_eq_true this
theorem b20 (F:Nat)(d:y5)(h1:d.Fields.length≤1000000)(h2:d.Nums.length≤1000000):a1m F d=some d:=by
 unfold a1m
 rw [F1 (by simp only [List.length_nil];omega),a8,F1 (by simp only [List.length_nil];omega)]
 rfl
theorem b8E (F:Nat)(d:y5)(h1:d.Fields.length≤1000000)(h2:d.Nums.length≤1000000):a2s F d=some d:=b20 F d h1 h2
end Go.Fk
set_option linter.unusedVariables false
namespace Go.Fk
open Go
theorem c2C (a:q9):C4 a []=false:=by cases a<;>rfl
theorem b9M (a b:UInt8)(x y:q9):C4 (a::x) (b::y)=true↔a<b∨(a=b∧C4 x y=true):=by
 simp [C4,Op.bytesLess]
theorem a1G: ∀x:q9,C4 x x=false
 | []=>rfl
 | a::x=>by
  rw [Bool.eq_false_iff]
  intro h
  rcases (b9M a a x x).1 h with h | ⟨_,h⟩
  ·exact absurd (UInt8.lt_iff_toNat_lt.1 h) (by omega)
  ·rw [a1G x] at h;cases h
theorem a6B: ∀{x y z:q9},C4 x y=true→C4 y z=true→C4 x z=true
 | _,_,[],_,h=>by rw [c2C] at h;cases h
 | _,[],_::_,h,_=>by rw [c2C] at h;cases h
 | [],_::_,_::_,_,_=>rfl
 | a::x,b::y,c::z,h,h'=>by
  rw [b9M] at h h' ⊢
  rcases h with h | ⟨rfl,h⟩
  ·rcases h' with h' | ⟨rfl,h'⟩
   ·exact .inl (UInt8.lt_iff_toNat_lt.2 (Nat.lt_trans (UInt8.lt_iff_toNat_lt.1 h) (UInt8.lt_iff_toNat_lt.1 h')))
   ·exact .inl h
  ·rcases h' with h' | ⟨rfl,h'⟩
   ·exact .inl h'
   ·exact .inr ⟨rfl,a6B h h'⟩
theorem b7q {a b:q9}(hne:a≠b):C4 a b=true∨C4 b a=true:=by
 have:=a6v a b
 cases h:C4 a b
 ·rw [h] at this
  have h2:(b==a)=false:=beq_eq_false_iff_ne.2 fun e=>hne e.symm
  rw [h2,Bool.or_false] at this
  exact .inr this.symm
 ·exact .inl rfl
theorem c2B {a b c:q9}(h:C4 a c=true):C4 a b=true∨C4 b c=true:=by
 by_cases e:a=b
 ·subst e;exact .inr h
 ·rcases b7q e with h1 | h1
  ·exact .inl h1
  ·exact .inr (a6B h1 h)
def a7q (l:List q9):Prop:=l.Pairwise fun a b=>C4 a b=true
def a4K (s:q9):List q9→List q9
 | []=>[s]
 | a::l=>if C4 a s then a::a4K s l else if a==s then a::l else s::a::l
theorem b27 {s x:q9}: ∀{l:List q9},x∈a4K s l↔x=s∨x∈l
 | []=>by simp [a4K]
 | a::l=>by
  unfold a4K
  split
  ·rw [List.mem_cons,b27 (l:=l),List.mem_cons]
   constructor
   ·rintro (h1 | h1 | h1)<;>simp [h1]
   ·rintro (h1 | h1 | h1)<;>simp [h1]
  ·split
   ·rename_i h
    have:=eq_of_beq h
    subst this
    rw [List.mem_cons]
    constructor
    ·rintro (h | h)<;>simp [h]
    ·rintro (h | h | h)<;>simp [h]
   ·simp [List.mem_cons]
theorem b1q {s:q9}: ∀{l:List q9},a7q l→a7q (a4K s l)
 | [],_=>by simp [a4K,a7q]
 | a::l,hs=>by
  have hc:=List.pairwise_cons.1 hs
  unfold a4K
  cases hl:C4 a s with
  | true=>
   rw [if_pos rfl]
   refine List.pairwise_cons.2 ⟨fun x hx=>?_,b1q hc.2⟩
   rcases b27.1 hx with rfl | hx
   ·exact hl
   ·exact hc.1 x hx
  | false=>
   rw [if_neg (by simp)]
   cases he:(a==s) with
   | true=>exact hs
   | false=>
    have hsa:C4 s a=true:=by
     rcases b7q (a:=a) (b:=s) (by simpa using he) with h | h
     ·rw [hl] at h;cases h
     ·exact h
    rw [if_neg (by simp)]
    refine List.pairwise_cons.2 ⟨fun x hx=>?_,hs⟩
    rcases List.mem_cons.1 hx with rfl | hx
    ·exact hsa
    ·exact a6B hsa (hc.1 x hx)
theorem a9L (s:q9): ∀l:List q9,(a4K s l).length≤l.length+1
 | []=>by simp [a4K]
 | a::l=>by
  unfold a4K
  split
  ·have:=a9L s l;simp only [r4];omega
  ·split<;>simp only [r4]<;>omega
def a21 (s:q9):List q9→Nat
 | []=>0
 | a::l=>if C4 a s then a21 s l+1 else 0
theorem b69 (s:q9): ∀l:List q9,a21 s l≤l.length
 | []=>Nat.le_refl _
 | a::l=>by
  unfold a21
  split
  ·have:=b69 s l;simp only [r4];omega
  ·omega
theorem b6P (s:q9): ∀l:List q9,a4K s l=if (l[a21 s l]?).elim false (fun x=>x==s) then l else l.take (a21 s l)++[s]++l.drop (a21 s l)
 | []=>rfl
 | a::l=>by
  unfold a4K a21
  split
  ·rw [b6P s l,List.getElem?_cons_succ]
   split<;>simp
  ·rw [R2,R2,List.getElem?_cons_zero,Option.elim_some]
   cases (a==s)<;>rfl
theorem b1A {s:q9}{xs:List q9}{f:Int→Option (Int⊕Int)}(h1: ∀(i:Nat) x,xs[i]? =some x→f (i:Int)=some (if C4 x s then .inl ((i+1:Nat):Int) else .inr (i:Int)))
  (h0:f (xs.length:Int)=some (.inr (xs.length:Int))): ∀(k i F:Nat),i+k=xs.length→k<F→v8 f F (i:Int)=some ((i+a21 s (xs.drop i):Nat):Int)
 | 0,i,F,e,hF=>by
  obtain⟨F,rfl⟩: ∃G,F=G+1:=⟨F-1,by omega⟩
  rw [v8,show i=xs.length by omega,h0,List.drop_eq_nil_of_le (by omega)];rfl
 | k+1,i,F,e,hF=>by
  obtain⟨F,rfl⟩: ∃G,F=G+1:=⟨F-1,by omega⟩
  have hi:i<xs.length:=by omega
  rw [v8,h1 i xs[i] (j4 hi),List.drop_eq_getElem_cons hi,a21]
  cases C4 xs[i] s with
  | true=>
   simp only [if_true,a8,Sum.elim_inl]
   rw [b1A h1 h0 k (i+1) F (by omega) (by omega)]
   congr 2;omega
  | false=>simp
theorem a8K {α σ τ τ':Type}{xs:List α}{e:σ→τ}{g:σ→α→σ}{I:Nat→σ→Prop}{mk:σ→Int→τ'}{f:τ'→Option (τ'⊕τ)}(h: ∀(i:Nat) x s,xs[i]? =some x→I i s→f (mk s (i:Int))=some (.inl (mk (g s x) ((i+1:Nat):Int)))∧I (i+1) (g s x))
  (h0: ∀s,I xs.length s→f (mk s (xs.length:Int))=some (.inr (e s))): ∀k i s F,i+k=xs.length→k<F→I i s→v8 f F (mk s (i:Int))=some (e ((xs.drop i).foldl g s))∧I xs.length ((xs.drop i).foldl g s)
 | 0,i,s,F,he,hF,hI=>by
  obtain⟨F,rfl⟩: ∃G,F=G+1:=⟨F-1,by omega⟩
  obtain rfl:i=xs.length:=by omega
  rw [v8,h0 s hI,List.drop_of_length_le (Nat.le_refl _)]
  exact⟨rfl,hI⟩
 | k+1,i,s,F,he,hF,hI=>by
  obtain⟨F,rfl⟩: ∃G,F=G+1:=⟨F-1,by omega⟩
  have hi:i<xs.length:=by omega
  obtain⟨h1,h2⟩:=h i xs[i] s (j4 hi) hI
  rw [List.drop_eq_getElem_cons hi,List.foldl_cons,v8,h1,a8]
  exact a8K h h0 k (i+1) _ F (by omega) (by omega) h2
theorem U5 {α σ τ τ':Type}{xs:List α}(g:σ→α→σ)(I:Nat→σ→Prop)(e:σ→τ)(mk:σ→Int→τ'){f:τ'→Option (τ'⊕τ)}{s0:τ'}(s:σ)(hs:s0=mk s 0)(F:Nat)(hF:xs.length<F)(hI:I 0 s)(h: ∀(i:Nat) x s,xs[i]? =some x→I i s→f (mk s (i:Int))=some (.inl (mk (g s x) ((i+1:Nat):Int)))∧I (i+1) (g s x))
  (h0: ∀s,I xs.length s→f (mk s (xs.length:Int))=some (.inr (e s))):v8 f F s0=some (e (xs.foldl g s))∧I xs.length (xs.foldl g s):=by
 have:=a8K h h0 xs.length 0 s F (by omega) hF hI
 rw [List.drop_zero] at this
 rw [hs];exact this
theorem b1D {β:Type}{lt:β→β→Bool}(irr: ∀a,lt a a=false)(tr: ∀{a b c},lt a b=true→lt b c=true→lt a c=true): ∀{a b:List β},(a.Pairwise fun x y=>lt x y=true)→(b.Pairwise fun x y=>lt x y=true)→(∀x,x∈a↔x∈b)→a=b
 | [],[],_,_,_=>rfl
 | [],y::b,_,_,h=>by have:=(h y).2 (by simp);cases this
 | x::a,[],_,_,h=>by have:=(h x).1 (by simp);cases this
 | x::a,y::b,ha,hb,h=>by
  have hac:=List.pairwise_cons.1 ha
  have hbc:=List.pairwise_cons.1 hb
  have hxy:x=y:=by
   rcases List.mem_cons.1 ((h x).1 (by simp)) with e | hx
   ·exact e
   ·rcases List.mem_cons.1 ((h y).2 (by simp)) with e | hy
    ·exact e.symm
    ·have:=tr (hbc.1 x hx) (hac.1 y hy)
     rw [irr] at this;cases this
  subst hxy
  congr 1
  refine b1D irr tr hac.2 hbc.2 fun z=>?_
  constructor
  ·intro hz
   rcases List.mem_cons.1 ((h z).1 (by simp [hz])) with e | hz'
   ·subst e
    have:=hac.1 z hz
    rw [irr] at this;cases this
   ·exact hz'
  ·intro hz
   rcases List.mem_cons.1 ((h z).2 (by simp [hz])) with e | hz'
   ·subst e
    have:=hbc.1 z hz
    rw [irr] at this;cases this
   ·exact hz'
theorem b7u {β:Type}{c:β→β→Option Int}{lt:β→β→Bool}(hlt: ∀a b,ltO c a b=lt a b)(hsm: ∀a b,(c a b).isSome=true)(irr: ∀a,lt a a=false)(tr: ∀{a b c},lt a b=true→lt b c=true→lt a c=true)(ng: ∀{a b c},lt a c=true→lt a b=true∨lt b c=true)
  {l t:List β}(hd:l.Pairwise fun a b=>lt a b=true∨lt b a=true)(ht:t.Pairwise fun x y=>lt x y=true)(hm: ∀x,x∈t↔x∈l)(hl:l.length≤1000000):a4R c l=some t:=by
 have hok:a6i c l=true:=by
  unfold a6i
  simp only [hlt,l8,decide_eq_true_iff,List.all_eq_true]
  refine⟨⟨⟨⟨⟨by omega,fun x _ y _=>hsm x y⟩,fun x _=>by rw [irr];rfl⟩,fun x _ y _ z _=>?_⟩,fun x _ y _ z _=>?_⟩,hd⟩
  ·cases h1:lt x y with
   | false=>simp
   | true=>
    cases h2:lt y z with
    | false=>simp
    | true=>rw [tr h1 h2];rfl
  ·cases h1:lt x y with
   | true=>simp
   | false=>
    cases h2:lt y z with
    | true=>simp
    | false=>
     have:lt x z=false:=by
      rw [Bool.eq_false_iff];intro h3
      rcases ng (b:=y) h3 with h | h
      ·rw [h1] at h;cases h
      ·rw [h2] at h;cases h
     rw [this];rfl
 unfold a4R
 rw [if_pos hok]
 congr 1
 have hperm:=List.mergeSort_perm l (fun x y=> !ltO c y x)
 refine b1D irr tr ?_ ht (fun x=>by rw [hperm.mem_iff,hm])
 have hsorted:=List.pairwise_mergeSort (le:=fun x y=> !ltO c y x) (fun a b c' h1 h2=>by
   simp only [hlt,Bool.not_eq_true'] at h1 h2 ⊢
   rw [Bool.eq_false_iff];intro h3
   rcases ng (b:=b) h3 with h | h
   ·rw [h2] at h;cases h
   ·rw [h1] at h;cases h) (fun a b=>by
   simp only [hlt]
   cases h:lt b a with
   | false=>rfl
   | true=>
    have:lt a b=false:=by
     rw [Bool.eq_false_iff];intro h2
     have:=tr h h2
     rw [irr] at this;cases this
    rw [this];rfl) l
 have hd':(l.mergeSort fun x y=> !ltO c y x).Pairwise fun a b=>lt a b=true∨lt b a=true:=hperm.symm.pairwise hd fun h=>h.symm
 refine(hsorted.and hd').imp fun {a b} ⟨h1,h2⟩=>?_
 simp only [hlt,Bool.not_eq_true'] at h1
 rcases h2 with h2 | h2
 ·exact h2
 ·rw [h1] at h2;cases h2
end Go.Fk
