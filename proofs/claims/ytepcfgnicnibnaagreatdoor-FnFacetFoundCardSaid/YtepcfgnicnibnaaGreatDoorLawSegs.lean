import Derived.Test.YtepcfgnicnibnaaGreatDoorLawBase
/-
  The words of a text: the program and the reference find the same. Of no program.
-/
namespace Go.Fk
open Go
def a3x (b:UInt8):UInt8:=if (65:UInt8)≤b∧b≤(90:UInt8) then b+32 else b
def isW (b:UInt8):Bool:=a0W (a3x b)
theorem a7E (F:Nat)(b:UInt8):a03 F b=some (a3x b):=by
 unfold a03 a3x
 by_cases h1:(65:UInt8)≤b<;>by_cases h2:b≤(90:UInt8)<;>simp [h1,h2]
 exact a9q (Q:=fun b=>b+97-65=b+32) (by decide +kernel) b
theorem b6E (b:UInt8):(!(a7z b==0))=isW b:=a9q (Q:=fun b=>(!(a7z b==0))=isW b) (by decide +kernel) b
theorem c1Q (b:UInt8):isW b=true→a7z b=a3x b:=a9q (Q:=fun b=>isW b=true→a7z b=a3x b) (by decide +kernel) b
def W6 (s:q9)(o k:Nat):List Z5:=
 match s with
 | []=>[]
 | b::r=>
  if isW b then ⟨(((b::r).takeWhile isW).map a3x).take 12,(k:Int),(o:Int),((o+((b::r).takeWhile isW).length:Nat):Int)⟩::W6 ((b::r).drop ((b::r).takeWhile isW).length) (o+((b::r).takeWhile isW).length) (k+1)
  else W6 r (o+1) k
termination_by s.length
decreasing_by
 ·rename_i h
  simp only [List.length_drop,List.takeWhile_cons,h,if_true,r4];omega
 ·simp
def a1M (s:q9):List Z5:=W6 s 0 0
theorem a0A (o k:Nat):W6 [] o k=[]:=by rw [W6]
theorem a8i {s:q9}{o k p:Nat}{b:UInt8}(h:s[p]? =some b)(hb:isW b=false):W6 (s.drop p) o k=W6 (s.drop (p+1)) (o+1) k:=by
 have hp:=(i4.1 h)
 obtain⟨hlt,rfl⟩:=hp
 rw [List.drop_eq_getElem_cons hlt,W6,if_neg (by rw [hb];simp)]
theorem b1K {s:q9}{o k p:Nat}{b:UInt8}(h:s[p]? =some b)(hb:isW b=true):W6 (s.drop p) o k=
  ⟨(((s.drop p).takeWhile isW).map a3x).take 12,(k:Int),(o:Int),((o+((s.drop p).takeWhile isW).length:Nat):Int)⟩::W6 (s.drop (p+((s.drop p).takeWhile isW).length)) (o+((s.drop p).takeWhile isW).length) (k+1):=by
 have hp:=(i4.1 h)
 obtain⟨hlt,rfl⟩:=hp
 rw [←List.drop_drop]
 generalize hd:s.drop p=t
 rw [List.drop_eq_getElem_cons hlt] at hd
 subst hd
 rw [W6,if_pos hb]
theorem b2F {s:q9}{p:Nat}:p+((s.drop p).takeWhile isW).length≤s.length∨s.length<p:=by
 have h1:=List.takeWhile_prefix isW (l:=s.drop p)
 have h2:=h1.length_le
 rw [List.length_drop] at h2
 omega
theorem c2n {s:q9}{p j:Nat}(hj:j<((s.drop p).takeWhile isW).length): ∃b,s[p+j]? =some b∧isW b=true∧((s.drop p).takeWhile isW)[j]? =some b:=by
 have h1:((s.drop p).takeWhile isW)[j]? =some ((s.drop p).takeWhile isW)[j]:=j4 hj
 refine⟨_,?_,?_,h1⟩
 ·have h2:=List.takeWhile_prefix isW (l:=s.drop p)
  have h3:=h2.getElem hj
  rw [←List.getElem?_drop,j4 (by have:=h2.length_le;omega),←h3]
 ·exact List.all_eq_true.1 List.all_takeWhile _ (List.getElem_mem hj)
theorem b5S {s:q9}{p:Nat}:s[p+((s.drop p).takeWhile isW).length]? =none∨∃b,s[p+((s.drop p).takeWhile isW).length]? =some b∧isW b=false:=by
 cases e:s[p+((s.drop p).takeWhile isW).length]? with
 | none=>exact .inl rfl
 | some b=>
  refine .inr ⟨b,rfl,?_⟩
  rw [←List.getElem?_drop] at e
  generalize s.drop p=t at e
  induction t with
  | nil=>simp at e
  | cons x r ih=>
   by_cases hx:isW x=true
   ·simp only [List.takeWhile_cons,hx,if_true,r4,List.getElem?_cons_succ] at e
    exact ih e
   ·simp only [List.takeWhile_cons,hx] at e
    simp at e
    subst e
    simpa using hx
theorem c03 {xs:List UInt8}{n:Nat}{x:UInt8}(h:xs.length<n):xs.take n++[x]=(xs++[x]).take n:=by
 rw [List.take_of_length_le (by omega),List.take_of_length_le (by simp;omega)]
theorem c02 {xs:List UInt8}{n:Nat}{x:UInt8}(h:n≤xs.length):(xs++[x]).take n=xs.take n:=by
 rw [List.take_append_of_le_length h]
theorem b0V {f:UInt8→UInt8}{R:List UInt8}{j:Nat}{b:UInt8}(h:R[j]? =some b):(R.take (j+1)).map f=(R.take j).map f++[f b]:=by
 obtain⟨hlt,rfl⟩:=i4.1 h
 rw [List.take_succ_eq_append_getElem hlt,List.map_append];rfl
theorem a8y {σ τ:Type}{f:σ→Option (σ⊕τ)}{t:τ}(Inv:Nat→σ→Prop)(n:Nat)
  (step: ∀i s,i<n→Inv i s→(∃s',f s=some (.inl s')∧Inv (i+1) s')∨f s=some (.inr t))
  (fin: ∀s,Inv n s→f s=some (.inr t))(k i:Nat)(s:σ)(F:Nat)(he:i+k=n)(hF:k<F)(hi:Inv i s):v8 f F s=some t:=by
 obtain⟨t',h1,rfl⟩:=H4 (Post:=fun t'=>t'=t) Inv n (fun i s hi hI=>(step i s hi hI).imp id fun h=>⟨t,h,rfl⟩) (fun s hI=>⟨t,fin s hI,rfl⟩) k i s F he hF hi
 exact h1
theorem c1W (F:Nat)(s:q9)(p:Nat)(hp:p≤s.length)(hF:s.length+1<F)
  {f:Int×List UInt8→Option ((Int×List UInt8)⊕(Int×List UInt8))}
  (h1: ∀(q:Nat) (t:List UInt8) b,s[q]? =some b→isW b=true→t.length<12→f ((q:Int),t)=some (.inl (((q+1:Nat):Int),t++[a3x b])))
  (h1': ∀(q:Nat) (t:List UInt8) b,s[q]? =some b→isW b=true→¬t.length<12→f ((q:Int),t)=some (.inl (((q+1:Nat):Int),t)))
  (h2: ∀(q:Nat) (t:List UInt8),q≤s.length→(s[q]? =none∨∃b,s[q]? =some b∧isW b=false)→f ((q:Int),t)=some (.inr ((q:Int),t))):
  v8 f F ((p:Int),[])=some (((p+((s.drop p).takeWhile isW).length:Nat):Int),(((s.drop p).takeWhile isW).map a3x).take 12):=by
 have hrl:=b2F (s:=s) (p:=p)
 obtain⟨t,ht,e⟩:=H4 (f:=f) (Post:=fun t=>t=(((p+((s.drop p).takeWhile isW).length:Nat):Int),(((s.drop p).takeWhile isW).map a3x).take 12))
  (fun j st=>st=(((p+j:Nat):Int),((((s.drop p).takeWhile isW).take j).map a3x).take 12)) ((s.drop p).takeWhile isW).length
  (fun j st hj hi=>by
   subst hi
   obtain⟨b,hb,hw,hr⟩:=c2n hj
   refine .inl ⟨_,?_,rfl⟩
   by_cases hl:(((((s.drop p).takeWhile isW).take j).map a3x).take 12).length<12
   ·rw [h1 _ _ b hb hw hl]
    have:((((s.drop p).takeWhile isW).take j).map a3x).length<12:=by rw [List.length_take] at hl;omega
    rw [c03 this,←b0V hr];rfl
   ·rw [h1' _ _ b hb hw hl]
    have:12≤((((s.drop p).takeWhile isW).take j).map a3x).length:=by rw [List.length_take] at hl;omega
    rw [b0V (f:=a3x) hr,c02 this];rfl)
  (fun st hi=>by
   subst hi
   refine⟨_,h2 _ _ (by omega) b5S,?_⟩
   rw [List.take_of_length_le (Nat.le_refl _)]) ((s.drop p).takeWhile isW).length 0 ((p:Int),[]) F (by omega) (by omega) (by simp)
 rw [ht,e]
theorem c2I (F:Nat)(s:q9)(p:Nat)(hp:p≤s.length)(hs:s.length≤2000000)(hF:s.length+1<F)
  {f:Int×List UInt8→Option ((Int×List UInt8)⊕(Int×List UInt8))}
  (h1: ∀(q:Nat) (t:List UInt8) b,s[q]? =some b→isW b=true→t.length≤2000000→f ((q:Int),t)=some (.inl (((q+1:Nat):Int),t++[a3x b])))
  (h2: ∀(q:Nat) (t:List UInt8),q≤s.length→(s[q]? =none∨∃b,s[q]? =some b∧isW b=false)→f ((q:Int),t)=some (.inr ((q:Int),t))):
  v8 f F ((p:Int),[])=some (((p+((s.drop p).takeWhile isW).length:Nat):Int),((s.drop p).takeWhile isW).map a3x):=by
 have hrl:=b2F (s:=s) (p:=p)
 obtain⟨t,ht,e⟩:=H4 (f:=f) (Post:=fun t=>t=(((p+((s.drop p).takeWhile isW).length:Nat):Int),((s.drop p).takeWhile isW).map a3x))
  (fun j st=>st=(((p+j:Nat):Int),(((s.drop p).takeWhile isW).take j).map a3x)) ((s.drop p).takeWhile isW).length
  (fun j st hj hi=>by
   subst hi
   obtain⟨b,hb,hw,hr⟩:=c2n hj
   refine .inl ⟨_,?_,rfl⟩
   rw [h1 _ _ b hb hw (by rw [List.length_map,List.length_take];omega),←b0V hr];rfl)
  (fun st hi=>by
   subst hi
   refine⟨_,h2 _ _ (by omega) b5S,?_⟩
   rw [List.take_of_length_le (Nat.le_refl _)]) ((s.drop p).takeWhile isW).length 0 ((p:Int),[]) F (by omega) (by omega) (by simp)
 rw [ht,e]
theorem b8i (F:Nat)(s:q9)(hs:s.length≤2000000)(hF:s.length+1<F):a11 F s=some (if a2o s then a1M s else []):=by
 unfold a11
 rw [b0z,a8]
 cases ht:a2o s
 ·rfl
 simp only [l9,i6,if_true]
 have hg: ∀(q:Nat) b,s[q]? =some b→u0 s (q:Int)=some b:=fun q b h=>by rw [n5];exact h
 have hlt: ∀(q:Nat) b,s[q]? =some b→decide ((q:Int)<(s.length:Int))=true:=fun q b h=>b8 (by have:=(i4.1 h).1;omega)
 rw [a8y (t:=a1M s) (fun i st=>∃(out:List Z5) (o:Nat),st=(out,(o:Int))∧i≤o∧o≤s.length∧out.length≤o∧out++W6 (s.drop o) o out.length=a1M s) s.length
  (fun i st hi ⟨out,o,e1,e2,e3,e4,e5⟩=>?_) (fun st ⟨out,o,e1,e2,e3,e4,e5⟩=>?_) s.length 0 (([]:List Z5),(0:Int)) F (by omega) (by omega) ⟨[],0,rfl,by omega,by omega,by simp,by simp [a1M]⟩]
 ·rfl
 ·subst e1
  rcases Nat.lt_or_ge o s.length with hol | hol
  ·have hb:s[o]? =some s[o]:=j4 hol
   rw [hlt o _ hb,i9,hg o _ hb,a8,a7E,a8,a43,a8]
   cases hw:isW s[o]
   ·rw [show a0W (a3x s[o])=false from hw]
    refine .inl ⟨(out,((o+1:Nat):Int)),?_,out,o+1,rfl,by omega,by omega,by omega,?_⟩
    ·rw [y2 (by omega)];rfl
    ·rw [←e5,a8i hb hw]
   ·rw [show a0W (a3x s[o])=true from hw]
    have hrl:=b2F (s:=s) (p:=o)
    have hpos:0<((s.drop o).takeWhile isW).length:=by rw [List.drop_eq_getElem_cons hol,List.takeWhile_cons,if_pos hw];simp
    refine .inl ⟨(out++[⟨(((s.drop o).takeWhile isW).map a3x).take 12,(out.length:Int),(o:Int),((o+((s.drop o).takeWhile isW).length:Nat):Int)⟩],((o+((s.drop o).takeWhile isW).length:Nat):Int)),?_,_,_,rfl,by omega,by omega,by rw [n9,j9];omega,?_⟩
    ·simp only [l9,i6]
     rw [c1W F s o e3 hF ?_ ?_ ?_,a8,a8,F1 (by simp;omega)]
     ·rfl
     ·intro q t b hb hw hl
      rw [hlt q b hb,i9,hg q b hb,a8,a7E,a8,a43,a8,a8,show a0W (a3x b)=true from hw,i9,b8 (show (t.length:Int)<12 by omega),i9,a8,a7E,a8,F1 (by simp;omega),a8,y2 (by have:=(i4.1 hb).1;omega)]
     ·intro q t b hb hw hl
      rw [hlt q b hb,i9,hg q b hb,a8,a7E,a8,a43,a8,a8,show a0W (a3x b)=true from hw,i9,c6 (show ¬(t.length:Int)<12 by omega),i6,y2 (by have:=(i4.1 hb).1;omega)]
     ·intro q t hq hor
      rcases hor with hn | ⟨b,hb,hw⟩
      ·rw [c6 (show ¬(q:Int)<s.length by have:=List.getElem?_eq_none_iff.1 hn;omega)];rfl
      ·rw [hlt q b hb,i9,hg q b hb,a8,a7E,a8,a43,a8,a8,show a0W (a3x b)=false from hw];rfl
    ·rw [List.append_assoc,←e5,b1K hb hw,n9,j9];rfl
  ·refine .inr ?_
   rw [c6 (by omega)]
   show some (Sum.inr out)=_
   rw [←e5,List.drop_of_length_le hol,a0A,List.append_nil]
 ·subst e1
  have:o=s.length:=by omega
  subst this
  rw [c6 (by omega)]
  show some (Sum.inr out)=_
  rw [←e5,List.drop_of_length_le (Nat.le_refl _),a0A,List.append_nil]
theorem b8P (F:Nat)(s:q9)(hs:s.length≤2000000)(hF:s.length+2<F):a18 F s=some (a1M s):=by
 unfold a18
 have hg: ∀(q:Nat) b,s[q]? =some b→u0 s (q:Int)=some b:=fun q b h=>by rw [n5];exact h
 have hlt: ∀(q:Nat) b,s[q]? =some b→decide ((q:Int)<(s.length:Int))=true:=fun q b h=>b8 (by have:=(i4.1 h).1;omega)
 have hrun: ∀(o:Nat),o≤s.length→_:=fun o ho=>c2I F s o ho hs (by omega) (f:=fun (s55:Int×(List UInt8))=>(Option.bind ((cond (decide (s55.1<(s.length:Int))) (Option.bind (u0 s s55.1) fun x81=>(Option.bind (S9 F x81) fun r84=>(some (!(r84==(0:UInt8)))))) (some false)):Option Bool) fun o72=>(cond o72 (Option.bind (u0 s s55.1) fun x94=>(Option.bind (S9 F x94) fun r97=>(Option.bind (J5 1 s55.2 ([r97]:List UInt8)) fun x112=>(some (.inl ((A1 (s55.1+(1:Int))),x112)))))) (some (.inr (s55.1,s55.2))))))
  (fun q t b hb hw hl=>by
   show Option.bind _ _=_
   rw [hlt q b hb,i9,hg q b hb,a8,a8w,a8,a8,show (!(a7z b==0))=true by rw [b6E];exact hw,i9,a8,a8w,a8,F1 (by simp;omega),a8,y2 (by have:=(i4.1 hb).1;omega),c1Q b hw])
  (fun q t hq hor=>by
   show Option.bind _ _=_
   rcases hor with hn | ⟨b,hb,hw⟩
   ·rw [c6 (show ¬(q:Int)<s.length by have:=List.getElem?_eq_none_iff.1 hn;omega)];rfl
   ·rw [hlt q b hb,i9,hg q b hb,a8,a8w,a8,a8,show (!(a7z b==0))=false by rw [b6E];exact hw];rfl)
 rw [a8y (t:=a1M s) (fun i st=>∃(out:List Z5) (o:Nat),st=(out,(o:Int))∧i≤o∧o≤s.length+1∧out.length≤o∧out++W6 (s.drop o) o out.length=a1M s) s.length
  (fun i st hi ⟨out,o,e1,e2,e3,e4,e5⟩=>?_) (fun st ⟨out,o,e1,e2,e3,e4,e5⟩=>?_) s.length 0 (([]:List Z5),(0:Int)) F (by omega) (by omega) ⟨[],0,rfl,by omega,by omega,by simp,by simp [a1M]⟩]
 ·rfl
 ·subst e1
  rcases Nat.lt_or_ge o s.length with hol | hol
  ·have hb:s[o]? =some s[o]:=j4 hol
   have hrl:=b2F (s:=s) (p:=o)
   rw [hlt o _ hb,i9,hrun o (by omega),a8,a8]
   simp only
   have hcut:(Option.bind ((cond (decide ((12:Int)<((((s.drop o).takeWhile isW).map a3x).length:Int))) (Option.bind (Y9 (((s.drop o).takeWhile isW).map a3x) 0 (12:Int)) fun x139=>(some x139)) (some (((s.drop o).takeWhile isW).map a3x))):Option (List UInt8)) fun x=>some x)=some ((((s.drop o).takeWhile isW).map a3x).take 12):=by
    by_cases hl:12<(((s.drop o).takeWhile isW).map a3x).length
    ·rw [b8 (by omega),i9,Y9,if_pos (by omega)];rfl
    ·rw [c6 (by omega),i6,List.take_of_length_le (by omega)];rfl
   rw [show ∀o:Option (List UInt8),(Option.bind o fun x=>some x)=o from fun o=>by cases o<;>rfl] at hcut
   rw [hcut,a8]
   cases hw:isW s[o]
   ·have hnil:(s.drop o).takeWhile isW=[]:=by rw [List.drop_eq_getElem_cons hol,List.takeWhile_cons,hw];simp
    rw [hnil]
    refine .inl ⟨(out,((o+1:Nat):Int)),?_,out,o+1,rfl,by omega,by omega,by omega,?_⟩
    ·simp only [List.map_nil,List.take_nil,List.length_nil,Nat.add_zero]
     rw [y2 (by omega)];rfl
    ·rw [←e5,a8i hb hw]
   ·have hpos:0<((s.drop o).takeWhile isW).length:=by rw [List.drop_eq_getElem_cons hol,List.takeWhile_cons,if_pos hw];simp
    rw [b8 (by rw [List.length_take,List.length_map];omega),i9,F1 (by simp;omega),a8,y2 (by omega)]
    refine .inl ⟨_,rfl,_,_,rfl,by omega,by omega,by rw [n9,j9];omega,?_⟩
    have e9:W6 (s.drop (o+((s.drop o).takeWhile isW).length+1)) (o+((s.drop o).takeWhile isW).length+1) (out.length+1)=W6 (s.drop (o+((s.drop o).takeWhile isW).length)) (o+((s.drop o).takeWhile isW).length) (out.length+1):=by
     rcases b5S (s:=s) (p:=o) with hn | ⟨b,hb2,hw2⟩
     ·have:=List.getElem?_eq_none_iff.1 hn
      rw [List.drop_of_length_le (i:=o+((s.drop o).takeWhile isW).length+1) (by omega),List.drop_of_length_le (i:=o+((s.drop o).takeWhile isW).length) (by omega),a0A,a0A]
     ·exact(a8i hb2 hw2).symm
    rw [List.append_assoc,←e5,b1K hb hw,n9,j9,e9];rfl
  ·refine .inr ?_
   rw [c6 (by omega)]
   show some (Sum.inr out)=_
   rw [←e5,List.drop_of_length_le hol,a0A,List.append_nil]
 ·subst e1
  rw [c6 (by omega)]
  show some (Sum.inr out)=_
  rw [←e5,List.drop_of_length_le (by omega),a0A,List.append_nil]
end Go.Fk
set_option linter.unusedVariables false
namespace Go.Fk
open Go
def a83:List q9:=[[105,110,103],[101,100],[101,115],[108,121],[115]]
def b0q (s e:q9):Bool:=decide (e.length+3≤s.length)&&(s.drop (s.length-e.length)==e)
def b5n (s e:q9):q9:=s.take (s.length-e.length)
def a0q (s:q9):q9:=(a83.find? (b0q s)).elim s (b5n s)
theorem b2S {e:q9}(h:e∈a83):1≤e.length∧e.length≤3:=by
 simp only [a83,List.mem_cons,List.not_mem_nil,or_false] at h
 rcases h with rfl | rfl | rfl | rfl | rfl<;>decide
theorem a5x (s:q9):(a83.find? (b0q s)=none∧a0q s=s)∨∃e,a83.find? (b0q s)=some e∧a0q s=b5n s e∧1≤e.length∧e.length+3≤s.length:=by
 unfold a0q
 cases h:a83.find? (b0q s) with
 | none=>exact .inl ⟨rfl,rfl⟩
 | some e=>
  have h1:=List.find?_some h
  have h2:=b2S (List.mem_of_find?_eq_some h)
  simp only [b0q,l8,decide_eq_true_iff] at h1
  exact .inr ⟨e,rfl,rfl,h2.1,h1.1⟩
theorem a2B {s:q9}(h:a0q s≠s):(a0q s).length<s.length:=by
 rcases a5x s with ⟨_,h1⟩ | ⟨e,_,h1,h2,h3⟩
 ·exact absurd h1 h
 ·rw [h1,b5n,List.length_take];omega
theorem c3B {s e:q9}(h:a83.find? (b0q s)=some e):a0q s≠s:=by
 rcases a5x s with ⟨h0,_⟩ | ⟨e',h1,h2,h3,h4⟩
 ·rw [h] at h0;cases h0
 ·intro h5
  have:=congrArg List.length h5
  rw [h2,b5n,List.length_take] at this;omega
theorem c2c (s:q9):(a0q s).length≤s.length:=by
 rcases a5x s with ⟨_,h1⟩ | ⟨e,_,h1,h2,h3⟩
 ·rw [h1];exact Nat.le_refl _
 ·rw [h1,b5n,List.length_take];omega
def a0U (s:q9):q9:=if h:a0q s=s then s else a0U (a0q s)
termination_by s.length
decreasing_by exact a2B h
theorem b01 {s:q9}(h:a0q s=s):a0U s=s:=by rw [a0U,dif_pos h]
theorem b51 {s:q9}(h:a0q s≠s):a0U s=a0U (a0q s):=by rw [a0U,dif_neg h]
theorem b3R {P:q9→q9→Prop}(h0: ∀s,a0q s=s→P s s)(h1: ∀s t,a0q s≠s→P (a0q s) t→P s t): ∀s,P s (a0U s):=by
 intro s
 induction hn:s.length using Nat.strongRecOn generalizing s with
 | _ n ih=>
  subst hn
  by_cases h:a0q s=s
  ·rw [b01 h];exact h0 s h
  ·rw [b51 h];exact h1 s _ h (ih _ (a2B h) _ rfl)
theorem b7G (s:q9):(a0U s).length≤s.length:=b3R (P:=fun s t=>t.length≤s.length) (fun s _=>Nat.le_refl _) (fun s t _ h=>Nat.le_trans h (c2c s)) s
theorem b7H (s:q9):a0U s<+:s:=b3R (P:=fun s t=>t<+:s) (fun s _=>List.prefix_refl s) (fun s t _ h=>h.trans (by
 rcases a5x s with ⟨_,h1⟩ | ⟨e,_,h1,_⟩
 ·rw [h1];exact List.prefix_refl s
 ·rw [h1];exact List.take_prefix _ _)) s
theorem c2L (s:q9)(h:1≤s.length):1≤(a0U s).length:=by
 have:=b3R (P:=fun s t=>1≤s.length→1≤t.length) (fun s _ h=>h) (fun s t hne ih _=>ih (by
  rcases a5x s with ⟨_,h1⟩ | ⟨e,_,h1,h2,h3⟩
  ·exact absurd h1 hne
  ·rw [h1,b5n,List.length_take];omega)) s
 exact this h
theorem c1a {s:q9}(h:D0 s=true):D0 (a0U s)=true:=by
 simp only [D0,l8,decide_eq_true_iff,List.all_eq_true] at h ⊢
 have h1:=c2L s h.2.1
 have h2:=b7G s
 exact⟨fun b hb=>h.1 b ((b7H s).subset hb),h1,by omega⟩
theorem b7I {s:q9}{k:Nat}(h:k≤s.length):a2I s (k:Int) s.length=some (s.drop k):=by
 rw [a2I,if_pos (by omega)]
 simp
theorem b9Q {s:q9}{k:Nat}(h:k≤s.length):a2I s 0 (k:Int)=some (s.take k):=by
 rw [a2I,if_pos (by omega)]
 simp
theorem c0e (F:Nat)(s e:q9)(hs:s.length≤2000000):V1 F s e=some (decide (e.length≤s.length)&&(s.drop (s.length-e.length)==e)):=by
 unfold V1 U0
 by_cases h:e.length≤s.length
 ·rw [b8 (show (e.length:Int)≤s.length by omega),i9,b8 h,B9 ⟨by omega,by omega⟩,show (s.length:Int)-e.length=((s.length-e.length:Nat):Int) by omega,b7I (by omega)]
  rfl
 ·rw [c6 (show ¬(e.length:Int)≤s.length by omega),i6,c6 h]
  rfl
theorem c3a (s e:q9):((decide (e.length≤s.length)&&(s.drop (s.length-e.length)==e))&&decide (e.length+3≤s.length))=b0q s e:=by
 unfold b0q
 by_cases h:e.length+3≤s.length
 ·rw [b8 h,b8 (show e.length≤s.length by omega)];simp
 ·rw [c6 h];simp
theorem b45 (F:Nat):a2P F=some a83:=rfl
theorem c0R (F:Nat)(s:q9)(hs:s.length≤2000000)(hF:5<F):X0 F s=some (a0q s):=by
 unfold X0
 rw [a1b (xs:=a83) (b0q s) (fun e=>Sum.inr (b5n s e)) (e:=Sum.inl ()) F hF (fun i e he=>?_) ?_]
 ·unfold a0q
  cases a83.find? (b0q s)<;>rfl
 ·rw [b45,a8,c6 (by omega)];rfl
 ·have hi:=(i4.1 he).1
  have hel:=b2S (l7 he)
  rw [b45,a8,b8 (by omega),i9,a8,n5,he,a8]
  have hw:A1 ((s.length:Int)-(e.length:Int))=(s.length:Int)-e.length:=B9 ⟨by omega,by omega⟩
  rw [hw]
  unfold b0q
  by_cases h:e.length+3≤s.length
  ·rw [b8 (show (3:Int)≤(s.length:Int)-e.length by omega),i9,b8 h,show (s.length:Int)-e.length=((s.length-e.length:Nat):Int) by omega,b7I (by omega),a8,a8,q8]
   cases s.drop (s.length-e.length)==e
   ·rw [i6,y2 (by have:a83.length=5:=rfl;omega)];rfl
   ·rw [i9,b9Q (by omega)];rfl
  ·rw [c6 (show ¬(3:Int)≤(s.length:Int)-e.length by omega),i6,c6 h,a8,i6,y2 (by have:a83.length=5:=rfl;omega)];rfl
theorem b0Z (F:Nat)(s:q9)(hs:s.length≤2000000)(hF:s.length+6<F):a0z F s=some (a0U s):=by
 have key: ∀(G:Nat) (t:q9),t.length<G→t.length≤2000000→v8 (σ:=q9) (τ:=q9) (fun (s10:q9)=>(Option.bind (X0 F s10) fun r22=>(cond (!(r22==s10)) (Option.bind (X0 F s10) fun r33=>(some (.inl r33))) (some (.inr s10))))) G t=some (a0U t):=by
  intro G
  induction G with
  | zero=>intro t h;omega
  | succ G ih=>
   intro t h ht
   rw [v8,c0R F t ht (by omega),a8]
   by_cases he:a0q t=t
   ·rw [he,b01 he];simp
   ·rw [b51 he,show (a0q t==t)=false from by simpa using he]
    simp only [Bool.not_false,i9,a8,Sum.elim_inl]
    exact ih _ (by have:=a2B he;omega) (by have:=a2B he;omega)
 unfold a0z
 rw [key F s (by omega) hs];rfl
theorem c0X {f:q9×Bool→Option ((q9×Bool)⊕q9)}(h1: ∀t:q9,t.length≤2000000→f (t,true)=some (.inl (a0q t,!(a0q t==t))))(h2: ∀t,f (t,false)=some (.inr t)):
  ∀(G:Nat) (t:q9),t.length+1<G→t.length≤2000000→v8 f G (t,true)=some (a0U t):=by
 intro G
 induction G with
 | zero=>intro t h;omega
 | succ G ih=>
  intro t h ht
  rw [v8,h1 t ht,a8]
  by_cases he:a0q t=t
  ·rw [he,b01 he]
   obtain⟨G,rfl⟩: ∃H,G=H+1:=⟨G-1,by omega⟩
   rw [show (!(t==t))=false from by simp]
   simp only [Sum.elim_inl]
   rw [v8,h2];rfl
  ·rw [b51 he,show (a0q t==t)=false from by simpa using he]
   exact ih _ (by have:=a2B he;omega) (by have:=a2B he;omega)
theorem c0p (F:Nat)(s:q9)(hs:s.length≤2000000)(hF:s.length+6<F):W8 F s=some (if D0 s then a0U s else []):=by
 unfold W8
 rw [M0,a8]
 cases hw:D0 s
 ·rfl
 simp only [l9,i6,if_true]
 rw [c0X (fun t ht=>?_) (fun t=>?_) F s (by omega) hs]
 ·rfl
 ·rw [i9]
  rw [show ([([105,110,103]:q9),([101,100]:q9),([101,115]:q9),([108,121]:q9),([115]:q9)]:List q9)=a83 from rfl,a2v (xs:=a83) (b0q t) (fun e=>(b5n t e,true)) (fun i e he=>?_)]
  ·cases h:a83.find? (b0q t) with
   | none=>
    have:a0q t=t:=by unfold a0q;rw [h];rfl
    simp [this]
   | some e=>
    have h1:=c3B h
    have h2:a0q t=b5n t e:=by unfold a0q;rw [h];rfl
    rw [show (a0q t==t)=false from by simpa using h1,h2];rfl
  ·have hel:=b2S (l7 he)
   have hww:A1 ((t.length:Int)-(e.length:Int))=(t.length:Int)-e.length:=B9 ⟨by omega,by omega⟩
   rw [n5,he,a8]
   simp only
   rw [c0e F t e ht,a8,hww,←c3a]
   cases hq:(decide (e.length≤t.length)&&(t.drop (t.length-e.length)==e))
   ·rfl
   ·rw [i9,a8,q8]
    by_cases h:e.length+3≤t.length
    ·rw [b8 (show (3:Int)≤(t.length:Int)-e.length by omega),b8 h,i9,show (t.length:Int)-e.length=((t.length-e.length:Nat):Int) by omega,b9Q (by omega)];rfl
    ·rw [c6 (show ¬(3:Int)≤(t.length:Int)-e.length by omega),c6 h];rfl
 ·rfl
end Go.Fk
set_option linter.unusedVariables false
namespace Go.Fk
open Go
theorem b3P (F:Nat)(xs:List q9)(v:q9)(hl:xs.length≤2000000)(hF:xs.length<F):a06 F xs v=some (xs.any (· ==v)):=by
 unfold a06
 rw [a1b (xs:=xs) (fun x=>x==v) (fun _=>Sum.inr true) (e:=Sum.inl ()) F hF (fun i x hx=>?_) ?_]
 ·rw [←List.isSome_find?]
  cases xs.find? (· ==v)<;>rfl
 ·rw [c6 (by omega)];rfl
 ·have hi:=(i4.1 hx).1
  rw [b8 (by omega),i9,n5,hx,a8,y2 (by omega)]
  cases x==v<;>rfl
theorem c3U (a b:q9):(a==b)=(b==a):=by
 rw [Bool.eq_iff_iff];simp only [beq_iff_eq];exact eq_comm
theorem a52 (F:Nat)(xs:List q9)(v:q9):I5 F xs v=some (xs.any (· ==v)):=by
 unfold I5 Z2
 rw [b2Z (xs:=xs) (fun x=>x==v) (fun i x hx=>?_)]
 ·rw [←c1S]
  cases xs.findIdx? (· ==v)<;>rfl
 ·rw [n5,hx,a8,c3U v x]
  cases x==v<;>rfl
def a87 (stops:List q9)(w:q9):Bool:=D0 w&&((a0U w==w)&& !stops.any (· ==w))
def a8U (stops:List q9)(r:V7):Bool:=((decide ((1:Int)≤r.From.length)&&decide ((r.From.length:Int)≤3))&&(D0 r.To&&(a0U r.To==r.To)))&&r.From.all (a87 stops)
def b9W (xs:List q9):Bool:=a1U D0 C4 xs
def X2 (c:u5):Bool:=(decide ((c.Stops.length:Int)≤6)&&b9W c.Stops&&decide ((c.Syns.length:Int)≤4))&&c.Syns.all (a8U c.Stops)
structure a0B (B:Nat)(c:u5):Prop where
 stops:c.Stops.length≤B∧∀s∈c.Stops,s.length≤B
 syns:c.Syns.length≤B∧∀r∈c.Syns,r.From.length≤B∧r.To.length≤B∧∀w∈r.From,w.length≤B
theorem N3 {s:q9}(h:D0 s=true):s.length≤12:=by
 simp only [D0,l8,decide_eq_true_iff] at h
 exact h.2.2
theorem c1T (F:Nat)(xs:List q9)(hl:xs.length≤2000000):X7 F xs=some (b9W xs):=by
 unfold X7 b9W
 rw [a47 (ok:=D0) (lt:=C4) (xs:=xs) (fun i x hx=>?_)]
 ·cases a1U D0 C4 xs<;>rfl
 ·have hi:=(i4.1 hx).1
  rw [n5,hx,a8,M0,a8]
  cases D0 x
  ·rfl
  ·simp only [l9,i6,q8]
   rcases Nat.eq_zero_or_pos i with rfl | hp
   ·rfl
   ·rw [b8 (by omega),i9,V5 hp (by omega),n5,c6 (by omega),Bool.false_or]
    have h1:i-1<xs.length:=by omega
    rw [j4 h1]
    simp only [a8,Option.elim_some]
    exact(show ∀b:Bool,(bif !b then some (Sum.inr false) else some (Sum.inl ()))=some (if b=true then Sum.inl () else Sum.inr false) from fun b=>by cases b<;>rfl) _
theorem b52 (F:Nat)(s:q9)(h:D0 s=true)(hF:20<F):W8 F s=some (a0U s):=by
 rw [c0p F s (by have:=N3 h;omega) (by have:=N3 h;omega),h];rfl
theorem b0x (F:Nat)(c:u5)(h1:c.Stops.length≤2000000)(hF:20<F):a0u F c=some (X2 c):=by
 unfold a0u X2
 rw [c1T F _ h1]
 by_cases h6:(c.Stops.length:Int)≤6
 case neg=>
  rw [c6 h6,b8 (by omega)];rfl
 rw [b8 h6,c6 (by omega),i6,a8]
 cases b9W c.Stops
 ·rfl
 simp only [l9,i6,a8,q8]
 by_cases h4:(c.Syns.length:Int)≤4
 case neg=>
  rw [c6 h4,b8 (by omega)];rfl
 rw [b8 h4,c6 (by omega),i6,q8]
 rw [a0k (p:=a8U c.Stops) (xs:=c.Syns) (fun i r hr=>?_) c.Syns.length 0 (by omega),List.drop_zero]
 ·cases c.Syns.all (a8U c.Stops)<;>rfl
 ·rw [n5,hr,a8,M7,a8,a8U]
  cases decide ((1:Int)≤r.From.length)&&decide ((r.From.length:Int)≤3)
  ·rfl
  simp only [l9,i6,q8]
  rw [M0,a8]
  cases hw:D0 r.To
  ·rfl
  simp only [l9,i6,q8]
  rw [b52 F _ hw hF,a8,a8]
  cases a0U r.To==r.To
  ·rfl
  simp only [l9,i6,q8]
  rw [a0k (p:=a87 c.Stops) (xs:=r.From) (fun j w hj=>?_) r.From.length 0 (by omega),List.drop_zero]
  ·cases r.From.all (a87 c.Stops)<;>rfl
  ·rw [n5,hj,a8,M0,a8,a87]
   cases hw2:D0 w
   ·rfl
   simp only [l9,i6,q8]
   rw [b52 F _ hw2 hF,a8]
   cases a0U w==w
   ·rfl
   simp only [l9,i6,q8]
   rw [a52,a8,a8]
   cases c.Stops.any (· ==w)<;>rfl
theorem Y8 (F:Nat)(s:q9)(B:Nat)(hs:s.length≤B)(hB:B≤2000000)(hF:B+20<F):D6 F s=some (D0 s):=
 b00 F s (by omega) (by have h0:2000000≤maxLen:=(by decide);omega)
theorem c2E {xs:List q9}{F B:Nat}(hl:xs.length≤B)(hs: ∀s∈xs,s.length≤B)(hB:B≤2000000)(hF:B+20<F){f:Int→Option (Int⊕(Unit⊕Bool))}
  (h: ∀s:Int,f s=(cond (decide (s<(xs.length:Int))) (Option.bind ((Option.bind (u0 xs s) fun x42=>(Option.bind (D6 F x42) fun r52=>(cond (!r52) (some true) (cond (decide ((0:Int)<s)) (Option.bind (u0 xs s) fun x67=>(Option.bind (u0 xs (A1 (s-(1:Int)))) fun x77=>(some (C4 x67 x77||x67==x77)))) (some false))))):Option Bool) fun o35=>(cond o35 (some (.inr (.inr false))) (some (.inl (A1 (s+(1:Int))))))) (some (.inr (.inl ()))))):
  v8 f F (0:Int)=some (if b9W xs then .inl () else .inr false):=by
 refine a5y (ok:=D0) (lt:=C4) (xs:=xs) (fun i x hx=>?_) ?_ F (by omega)
 ·have hi:=(i4.1 hx).1
  rw [h,b8 (by omega),i9,n5,hx,a8,Y8 F x B (hs x (l7 hx)) hB hF,a8]
  cases D0 x
  ·rfl
  ·simp only [l9,i6,q8]
   rw [y2 (by omega)]
   rcases Nat.eq_zero_or_pos i with rfl | hp
   ·rfl
   ·rw [b8 (by omega),i9,a8,V5 hp (by omega),n5,c6 (by omega),Bool.false_or]
    have h1:i-1<xs.length:=by omega
    rw [j4 h1]
    simp only [a8,Option.elim_some]
    have:=a6v xs[i-1] x
    rw [←this]
    exact(show ∀b:Bool,(bif !b then some (Sum.inr (Sum.inr false)) else some (Sum.inl ((i+1:Nat):Int)))=some (if b=true then Sum.inl ((i+1:Nat):Int) else Sum.inr (Sum.inr false)) from fun b=>by cases b<;>rfl) _
 ·rw [h,c6 (by omega)];rfl
theorem b44 (F B:Nat)(c:u5)(hc:a0B B c)(hB:B≤2000000)(hF:B+30<F):a3n F c=some (X2 c):=by
 obtain⟨⟨h1,h2⟩,h3,h4⟩:=hc
 unfold a3n X2
 rw [c2E (xs:=c.Stops) (B:=B) h1 h2 hB (by omega) (fun _=>rfl),a8]
 cases b9W c.Stops
 ·simp only [Bool.and_false,Bool.false_and];rfl
 rw [if_pos rfl]
 simp only [Bool.and_true]
 show Option.bind _ _=_
 show Option.bind _ _=_
 rw [a07 (a8U c.Stops) (xs:=c.Syns) F (by omega) (fun i r hr=>?_) ?_,a8]
 ·cases c.Syns.all (a8U c.Stops)
  ·simp only [Bool.and_false];rfl
  ·rw [if_pos rfl]
   simp only [Bool.and_true]
   show cond _ _ _=_
   cases decide ((c.Stops.length:Int)≤6)<;>rfl
 ·rw [c6 (by omega)];rfl
 ·have hi:=(i4.1 hr).1
  obtain⟨g1,g2,g3⟩:=h4 r (l7 hr)
  rw [b8 (by omega),i9,n5,hr,a8]
  rw [a07 (a87 c.Stops) (xs:=r.From) F (by omega) (fun j w hj=>?_) ?_,a8,a8U]
  ·cases r.From.all (a87 c.Stops)
   ·simp only [Bool.and_false];rfl
   ·rw [if_pos rfl]
    simp only [Bool.and_true]
    show Option.bind _ _=_
    rw [inS,a8,y2 (by omega)]
    cases decide ((1:Int)≤r.From.length)&&decide ((r.From.length:Int)≤3)
    ·rfl
    simp only [l9,i6,q8]
    rw [Y8 F r.To B g2 hB (by omega),a8]
    cases hw:D0 r.To
    ·rfl
    simp only [l9,i6,q8]
    rw [b0Z F r.To (by omega) (by omega),a8,a8]
    cases a0U r.To==r.To<;>rfl
  ·rw [c6 (by omega)];rfl
  ·have hj2:=(i4.1 hj).1
   have hwl:=g3 w (l7 hj)
   rw [b8 (by omega),i9,n5,hj,a8,Y8 F w B hwl hB (by omega),a8,a87,y2 (by omega)]
   cases hw2:D0 w
   ·rfl
   simp only [l9,i6,q8]
   rw [a8,b0Z F w (by omega) (by omega),a8,a8]
   cases a0U w==w
   ·rfl
   simp only [l9,i6,q8]
   rw [a8,b3P F c.Stops w (by omega) (by omega),a8,a8]
   cases c.Stops.any (· ==w)<;>rfl
end Go.Fk
set_option linter.unusedVariables false
namespace Go.Fk
open Go
theorem a8z: ∀(n:Nat) (s:q9) (o k:Nat),s.length≤n→(W6 s o k).length≤s.length∧∀w∈W6 s o k,D0 w.Text=true
 | n,[],o,k,_=>by rw [a0A];simp
 | 0,b::r,o,k,h=>by simp at h
 | n+1,b::r,o,k,h=>by
  rw [W6]
  by_cases hb:isW b=true
  ·rw [if_pos hb]
   have hl:=List.takeWhile_prefix isW (l:=b::r)
   have hle:=hl.length_le
   have hpos:0<((b::r).takeWhile isW).length:=by rw [List.takeWhile_cons,if_pos hb];simp
   have ih:=a8z n ((b::r).drop ((b::r).takeWhile isW).length) (o+((b::r).takeWhile isW).length) (k+1) (by rw [List.length_drop];omega)
   rw [List.length_drop] at ih
   refine⟨by rw [r4];omega,fun w hw=>?_⟩
   rcases List.mem_cons.1 hw with rfl | hw
   ·simp only [D0,l8,decide_eq_true_iff,List.all_eq_true]
    refine⟨fun x hx=>?_,?_,?_⟩
    ·obtain⟨y,hy,rfl⟩:=List.mem_map.1 (List.mem_of_mem_take hx)
     exact List.all_eq_true.1 List.all_takeWhile y hy
    ·rw [List.length_take,List.length_map];omega
    ·rw [List.length_take];omega
   ·exact ih.2 w hw
  ·rw [if_neg hb]
   have ih:=a8z n r (o+1) k (by rw [r4] at h;omega)
   exact⟨by rw [r4];omega,ih.2⟩
theorem b5e (s:q9):(a1M s).length≤s.length:=(a8z s.length s 0 0 (Nat.le_refl _)).1
theorem a9k {s:q9}{w:Z5}(h:w∈a1M s):D0 w.Text=true:=(a8z s.length s 0 0 (Nat.le_refl _)).2 w h
def a1z (stops:List q9)(w:Z5):List C8:=if !stops.any (· ==w.Text)&& !stops.any (· ==a0U w.Text) then [⟨a0U w.Text,w.At⟩] else []
def a2H (c:u5)(s:q9):List C8:=(a1M s).flatMap (a1z c.Stops)
def a2u (l:List C8)(fr:List q9):Bool:=fr.zipIdx.all fun q=>(l[q.2]?).elim false fun t=>(t.Text==q.1)&&((l[0]?).elim false fun h=>t.At==A1 (h.At+(q.2:Int)))
def a1I (l:List C8)(best:Option V7)(r:V7):Option V7:=if a2u l r.From&&(best.elim true fun b=>decide (b.From.length<r.From.length)) then some r else best
def a6o (syns:List V7)(l:List C8):Option V7:=syns.foldl (a1I l) none
def a4G (syns:List V7):Nat→List C8→List C8
 | 0,_=>[]
 | _+1,[]=>[]
 | n+1,t::r=>match a6o syns (t::r) with
  | none=>t::a4G syns n r
  | some y=>⟨y.To,t.At⟩::a4G syns n ((t::r).drop y.From.length)
def G3 (c:u5)(s:q9):List C8:=a4G c.Syns (a2H c s).length (a2H c s)
theorem a8R (stops:List q9)(w:Z5):(a1z stops w).length≤1:=by unfold a1z;split<;>simp
theorem a8v (c:u5)(s:q9):(a2H c s).length≤s.length:=by
 have h1:=W3 (g:=a1z c.Stops) (m:=1) (a1M s) (fun w _=>a8R c.Stops w)
 have h2:=b5e s
 unfold a2H;omega
theorem a5c {syns:List V7}{l:List C8}{y:V7}(h:a6o syns l=some y):y∈syns:=by
 have: ∀(ss:List V7) (b:Option V7),ss.foldl (a1I l) b=some y→y∈ss∨b=some y:=by
  intro ss
  induction ss with
  | nil=>intro b h;exact .inr h
  | cons x r ih=>
   intro b h
   rw [List.foldl_cons] at h
   rcases ih _ h with h1 | h1
   ·exact .inl (List.mem_cons_of_mem _ h1)
   ·unfold a1I at h1
    split at h1
    ·cases h1;exact .inl (List.mem_cons_self ..)
    ·exact .inr h1
 exact(this syns none h).resolve_right (by simp)
def b5h (syns:List V7):Prop:=∀r∈syns,1≤r.From.length
theorem c2l {syns:List V7}(hp:b5h syns): ∀(n:Nat) (l:List C8),l.length≤n→a4G syns n l=a4G syns l.length l:=by
 intro n
 induction n using Nat.strongRecOn with
 | _ n ih=>
  intro l hl
  match n,l with
  | 0,[]=>rfl
  | 0,t::r=>simp at hl
  | n+1,[]=>rfl
  | n+1,t::r=>
   rw [r4] at hl ⊢
   simp only [a4G]
   cases hb:a6o syns (t::r) with
   | none=>simp only;rw [ih n (by omega) r (by omega)]
   | some y=>
    simp only
    have hy:=hp y (a5c hb)
    have hd:((t::r).drop y.From.length).length≤r.length:=by rw [List.length_drop,r4];omega
    rw [ih n (by omega) _ (by omega)]
    rcases Nat.lt_or_ge r.length (n+1) with h | h
    ·by_cases hrn:r.length<n+1
     ·rw [ih r.length (by omega) _ hd]
     ·omega
    ·omega
theorem b6p {c:u5}(h:X2 c=true):b5h c.Syns:=fun r hr=>by
 unfold X2 at h
 rw [l8,List.all_eq_true] at h
 have:=h.2 r hr
 simp only [a8U,l8,decide_eq_true_iff] at this
 omega
theorem a6I {c:u5}(h:X2 c=true):c.Stops.length≤6∧c.Syns.length≤4:=by
 simp only [X2,l8,decide_eq_true_iff] at h
 omega
theorem b7b {syns:List V7}(hp:b5h syns){l:List C8}{i:Nat}(hi:i<l.length):a4G syns (l.length-i) (l.drop i)=match a6o syns (l.drop i) with
  | none=>l[i]::a4G syns (l.length-(i+1)) (l.drop (i+1))
  | some y=>⟨y.To,l[i].At⟩::a4G syns (l.length-(i+y.From.length)) (l.drop (i+y.From.length)):=by
 rw [show l.length-i=(l.length-(i+1))+1 by omega]
 have hc:=List.drop_eq_getElem_cons hi
 cases hb:a6o syns (l.drop i) with
 | none=>
  rw [hc] at hb ⊢
  simp only [a4G,hb]
 | some y=>
  have hy:=hp y (a5c hb)
  have e1:(l[i]::l.drop (i+1)).drop y.From.length=l.drop (i+y.From.length):=by rw [←hc,List.drop_drop]
  rw [hc] at hb ⊢
  simp only [a4G,hb,e1]
  rw [c2l hp _ (l.drop (i+y.From.length)) (by rw [List.length_drop];omega),List.length_drop]
theorem b2C (syns:List V7)(n:Nat):a4G syns n []=[]:=by cases n<;>rfl
theorem a9p {l:List C8}{fr:List q9}(h:l.length<fr.length):a2u l fr=false:=by
 unfold a2u
 rw [List.all_eq_false]
 refine⟨(fr[l.length],l.length),List.mem_iff_getElem?.2 ⟨l.length,by rw [List.getElem?_zipIdx,j4 h];simp⟩,?_⟩
 simp
theorem b7y (F:Nat)(l:List C8)(fr:List q9)(hl:l.length≤2000000)(hfr:fr.length≤2000000)(hF:fr.length<F):a0h F l fr=some (a2u l fr):=by
  unfold a0h a2u
  have hz:fr.zipIdx.length=fr.length:=by simp
  have hloop:=a07 (xs:=fr.zipIdx) (fun q=>(l[q.2]?).elim false fun t=>(t.Text==q.1)&&((l[0]?).elim false fun h=>t.At==A1 (h.At+(q.2:Int)))) F (by omega) (f:=fun (s17:Int)=>(cond (decide (s17<(fr.length:Int))) (Option.bind ((cond (decide ((l.length:Int)≤s17)) (some true) (Option.bind (u0 l s17) fun x44=>(Option.bind (u0 fr s17) fun x55=>(cond (!(x44.Text==x55)) (some true) (Option.bind (u0 l s17) fun x71=>(Option.bind (u0 l (0:Int)) fun x82=>(some (!(x71.At==(A1 (x82.At+s17))))))))))):Option Bool) fun o31=>(cond o31 (some (.inr (.inr false))) (some (.inl (A1 (s17+(1:Int))))))) (some (.inr (.inl ())))))
    (fun i q hq=>by
      obtain⟨hx,rfl⟩:=b7U hq
      have hi:=(i4.1 hx).1
      show cond _ _ _=_
      rw [R2,b8 (by omega),i9,y2 (by omega)]
      rcases Nat.lt_or_ge q.2 l.length with h | h
      · rw [c6 (by omega),i6,n5,n5,hx,j4 h,a8,a8]
        simp only [Option.elim_some]
        cases l[q.2].Text==q.1
        · rfl
        · simp only [l9,i6,a8,q8]
          rw [show (0:Int)=((0:Nat):Int) from rfl,n5,j4 (show 0<l.length by omega)]
          simp only [a8,Option.elim_some]
          cases l[q.2].At==A1 (l[0].At+(q.2:Int))<;>rfl
      · rw [b8 (by omega),i9,List.getElem?_eq_none h];rfl)
    (by show cond _ _ _=_
        rw [hz,c6 (by omega)];rfl)
  rw [hloop]
  cases fr.zipIdx.all _<;>rfl
theorem c2J (F:Nat)(c:u5)(l:List C8)(hl:l.length≤2000000)(hs:c.Syns.length≤2000000)(hfr: ∀r∈c.Syns,r.From.length≤2000000∧r.From.length<F)(hF:c.Syns.length<F):
  ∃k:Int,a3E F c l=some k∧((k<0∧a6o c.Syns l=none)∨∃y,0≤k∧u0 c.Syns k=some y∧a6o c.Syns l=some y):=by
 unfold a3E
 have key: ∀(k i:Nat) (G:Nat) (b:Int) (m:Option V7),i+k=c.Syns.length→k<G→((b<0∧m=none)∨∃y,0≤b∧u0 c.Syns b=some y∧m=some y)→
   ∃b':Int,v8 (σ:=Int×Int) (τ:=Int) (fun (s25:Int×Int)=>(cond (decide (s25.2<(c.Syns.length:Int))) (Option.bind ((Option.bind (u0 c.Syns s25.2) fun x47=>(Option.bind (a0h F l x47.From) fun r61=>(cond r61 (cond (decide (s25.1<(0:Int))) (some true) (Option.bind (u0 c.Syns s25.2) fun x76=>(Option.bind (u0 c.Syns s25.1) fun x90=>(some (decide ((x90.From.length:Int)<(x76.From.length:Int))))))) (some false)))):Option Bool) fun o40=>(cond o40 (some (.inl (s25.2,(A1 (s25.2+(1:Int)))))) (some (.inl (s25.1,(A1 (s25.2+(1:Int)))))))) (some (.inr s25.1)))) G (b,(i:Int))=some b'∧
    ((b'<0∧(c.Syns.drop i).foldl (a1I l) m=none)∨∃y,0≤b'∧u0 c.Syns b'=some y∧(c.Syns.drop i).foldl (a1I l) m=some y):=by
  intro k
  induction k with
  | zero=>
   intro i G b m hi hG hb
   obtain⟨G,rfl⟩: ∃H,G=H+1:=⟨G-1,by omega⟩
   refine⟨b,?_,?_⟩
   ·rw [v8]
    simp only
    rw [c6 (by omega)];rfl
   ·rw [List.drop_of_length_le (by omega)];exact hb
  | succ k ih=>
   intro i G b m hi hG hb
   obtain⟨G,rfl⟩: ∃H,G=H+1:=⟨G-1,by omega⟩
   have hlt:i<c.Syns.length:=by omega
   have hat:u0 c.Syns (i:Int)=some c.Syns[i]:=a0m hlt
   have hmem:c.Syns[i]∈c.Syns:=List.getElem_mem hlt
   rw [List.drop_eq_getElem_cons hlt,List.foldl_cons,v8]
   simp only
   rw [b8 (by omega),i9,hat,a8,b7y F l _ hl (hfr _ hmem).1 (hfr _ hmem).2,a8,y2 (by omega)]
   cases hbg:a2u l c.Syns[i].From
   ·have e:a1I l m c.Syns[i]=m:=by unfold a1I;rw [hbg];simp
    rw [e]
    exact ih (i+1) G b m (by omega) (by omega) hb
   ·rw [i9]
    rcases hb with ⟨h1,rfl⟩ | ⟨y,h1,h2,rfl⟩
    ·have e:a1I l none c.Syns[i]=some c.Syns[i]:=by unfold a1I;rw [hbg];simp
     rw [b8 h1,i9,a8,i9,e]
     exact ih (i+1) G _ _ (by omega) (by omega) (.inr ⟨_,by omega,hat,rfl⟩)
    ·rw [c6 (by omega),i6,h2,a8,a8,a8]
     by_cases hlen:y.From.length<c.Syns[i].From.length
     ·have e:a1I l (some y) c.Syns[i]=some c.Syns[i]:=by unfold a1I;rw [hbg];simp [hlen]
      rw [b8 (by omega),i9,e]
      exact ih (i+1) G _ _ (by omega) (by omega) (.inr ⟨_,by omega,hat,rfl⟩)
     ·have e:a1I l (some y) c.Syns[i]=some y:=by unfold a1I;rw [hbg];simp [hlen]
      rw [c6 (by omega),i6,e]
      exact ih (i+1) G _ _ (by omega) (by omega) (.inr ⟨_,h1,h2,rfl⟩)
 obtain⟨b',h1,h2⟩:=key c.Syns.length 0 F (-1) none (by omega) hF (.inl ⟨by omega,rfl⟩)
 rw [List.drop_zero] at h2
 refine⟨b',?_,h2⟩
 rw [show (0:Int)=((0:Nat):Int) from rfl] at *
 rw [h1];rfl
theorem c1k (xs:List (q9×Nat))(p:q9×Nat→Bool): ∀b:Bool,xs.foldl (fun s x=>s&&p x) b=(b&&xs.all p):=by
 induction xs with
 | nil=>intro b;simp
 | cons x r ih=>intro b;rw [List.foldl_cons,ih,List.all_cons,Bool.and_assoc]
theorem c0o (F:Nat)(c:u5)(l:List C8)(at_:Nat)(hl:l.length≤2000000)(ha:at_<l.length)(hfr: ∀r∈c.Syns,r.From.length≤2000000):a2L F c l (at_:Int)=some (a6o c.Syns (l.drop at_)):=by
 unfold a2L a6o
 rw [a8m (a1I (l.drop at_)) (fun i r b hr=>?_)]
 ·rfl
 ·rw [n5,hr,a8,B9 ⟨by omega,by omega⟩]
  have hrl:=hfr r (l7 hr)
  by_cases hlen:(l.length:Int)-at_<r.From.length
  ·rw [b8 hlen,i9,a8,i9]
   unfold a1I
   rw [a9p (by rw [List.length_drop];omega)];simp
  ·rw [c6 hlen,i6]
   have hfits:(U6 (fun (i106:Nat) (s102:Bool)=>(Option.bind (u0 r.From ((i106:Nat):Int)) fun x115=>(Option.bind (u0 l (A1 ((at_:Int)+((i106:Nat):Int)))) fun x125=>(cond s102 (cond (x125.Text==x115) (Option.bind (u0 l (at_:Int)) fun x146=>(some (x125.At==(A1 (x146.At+((i106:Nat):Int)))))) (some false)) (some false))))) r.From.length 0 true)=some (a2u (l.drop at_) r.From):=by
    have hz:r.From.length=r.From.zipIdx.length:=by simp
    rw [hz,a8m (xs:=r.From.zipIdx) (fun s q=>s&&(((l.drop at_)[q.2]?).elim false fun t=>(t.Text==q.1)&&(((l.drop at_)[0]?).elim false fun h=>t.At==A1 (h.At+(q.2:Int))))) (fun i q s hq=>?_),c1k,q8]
    ·rfl
    ·obtain⟨hx,rfl⟩:=b7U hq
     have hi:=(i4.1 hx).1
     rw [n5,hx,a8,B9 ⟨by omega,by omega⟩,show (at_:Int)+(q.2:Int)=((at_+q.2:Nat):Int) by omega,n5,n5,List.getElem?_drop,List.getElem?_drop,Nat.add_zero,j4 (show at_+q.2<l.length by omega),j4 ha,a8]
     simp only [Option.elim_some,a8]
     cases s
     ·rfl
     ·cases l[at_+q.2].Text==q.1<;>rfl
   rw [hfits]
   unfold a1I
   rw [R2]
   cases b with
   | none=>
    simp only [Option.isSome_none,i6,a8,Option.elim_none,Bool.and_true]
    cases a2u (l.drop at_) r.From<;>rfl
   | some y=>
    simp only [Option.isSome_some,i9,a8,Option.elim_some]
    by_cases hy:r.From.length≤y.From.length
    ·rw [b8 (by omega),c6 (by omega)];simp
    ·rw [c6 (by omega),b8 (by omega)]
     cases a2u (l.drop at_) r.From<;>rfl
end Go.Fk
set_option linter.unusedVariables false
namespace Go.Fk
open Go
theorem b4u {c:u5}(h:X2 c=true): ∀r∈c.Syns,r.From.length≤3:=fun r hr=>by
 unfold X2 at h
 rw [l8,List.all_eq_true] at h
 have:=h.2 r hr
 simp only [a8U,l8,decide_eq_true_iff] at this
 omega
theorem b2B {syns:List V7}: ∀(n:Nat) (l:List C8),(a4G syns n l).length≤n
 | 0,l=>by rw [a4G];simp
 | n+1,[]=>by rw [a4G];simp
 | n+1,t::r=>by
  simp only [a4G]
  cases a6o syns (t::r) with
  | none=>simp only [r4];have:=b2B (syns:=syns) n r;omega
  | some y=>simp only [r4];have:=b2B (syns:=syns) n ((t::r).drop y.From.length);omega
theorem a3u (c:u5)(s:q9):(G3 c s).length≤s.length:=by
 have h1:=b2B (syns:=c.Syns) (a2H c s).length (a2H c s)
 have h2:=a8v c s
 unfold G3;omega
theorem a6L (F:Nat)(c:u5)(s:q9)(hs:s.length≤2000000)(hc:c.Stops.length≤2000000)(hF:s.length+30<F):O1 F c s=some (if X2 c&&a2o s then G3 c s else []):=by
 unfold O1
 rw [b0x F c hc (by omega),a8,R2]
 cases hcs:X2 c
 ·rfl
 simp only [l9,i6,q8]
 rw [b0z,a8,a8]
 cases hts:a2o s
 ·rfl
 simp only [l9,i6,i9]
 rw [b8i F s hs (by omega),hts,if_pos rfl,a8]
 have hpl:=a8v c s
 rw [a4s (a1z c.Stops) 2000000 (fun i w acc hw hB=>?_) [] (by rw [List.nil_append];unfold a2H at hpl;omega),List.nil_append,a8,a8]
 ·have hfold:(a1M s).flatMap (a1z c.Stops)=a2H c s:=rfl
  rw [hfold]
  have hp:=b6p hcs
  have hfr:=b4u hcs
  obtain⟨l,hl⟩: ∃l,l=a2H c s:=⟨_,rfl⟩
  rw [←hl] at hpl ⊢
  rw [a8y (t:=a4G c.Syns l.length l) (fun i st=>∃(out:List C8) (o:Nat),st=(out,(o:Int))∧i≤o∧out.length≤o∧o≤l.length+3∧out++a4G c.Syns (l.length-o) (l.drop o)=a4G c.Syns l.length l) l.length
   (fun i st hi ⟨out,o,e1,e2,e3,e4,e5⟩=>?_) (fun st ⟨out,o,e1,e2,e3,e4,e5⟩=>?_) l.length 0 (([]:List C8),(0:Int)) F (by omega) (by omega) ⟨[],0,rfl,by omega,by simp,by omega,by simp⟩]
  ·rw [hl];rfl
  ·subst e1
   rcases Nat.lt_or_ge o l.length with hol | hol
   ·refine .inl ?_
    rw [b8 (by omega),i9,c0o F c l o (by omega) hol (fun r hr=>by have:=hfr r hr;omega),a8,n5,j4 hol]
    have hr:=b7b hp hol
    cases hb:a6o c.Syns (l.drop o) with
    | none=>
     rw [hb] at hr
     simp only [Option.isNone_none,i9,a8] at hr ⊢
     rw [F1 (by simp;omega),a8,y2 (by omega)]
     exact⟨_,rfl,_,_,rfl,by omega,by rw [n9,j9];omega,by omega,by rw [List.append_assoc,←e5,hr];rfl⟩
    | some y=>
     rw [hb] at hr
     have hy:=hp y (a5c hb)
     have hy3:=hfr y (a5c hb)
     simp only [Option.isNone_some,i6,a8] at hr ⊢
     rw [F1 (by simp;omega),a8,show (o:Int)+(y.From.length:Int)=((o+y.From.length:Nat):Int) by omega,B9 ⟨by omega,by omega⟩]
     exact⟨_,rfl,_,_,rfl,by omega,by rw [n9,j9];omega,by omega,by rw [List.append_assoc,←e5,hr];rfl⟩
   ·refine .inr ?_
    rw [c6 (by omega)]
    show some (Sum.inr out)=_
    rw [←e5,List.drop_of_length_le hol,b2C,List.append_nil]
  ·subst e1
   rw [c6 (by omega)]
   show some (Sum.inr out)=_
   rw [←e5,List.drop_of_length_le (by omega),b2C,List.append_nil]
 ·have hww:=a9k (l7 hw)
  rw [n5,hw,a8,b52 F _ hww (by omega),a8,a52,a8,a52]
  unfold a1z at hB ⊢
  revert hB
  rw [R2]
  cases c.Stops.any (· ==w.Text)
  ·simp only [Bool.not_false,i9,a8,q8]
   cases c.Stops.any (· ==a0U w.Text)
   ·intro hB
    simp only [Bool.not_false,i9] at hB ⊢
    rw [F1 (by simp at hB ⊢;omega)];rfl
   ·intro _;simp
  ·intro _;simp
theorem b8L (F:Nat)(c:u5)(s:q9)(hs:s.length≤2000000)(hc:c.Stops.length≤2000000)(hF:s.length+30<F)(hF2:c.Stops.length<F):a19 F c s=some (a2H c s):=by
 unfold a19
 have hpl:=a8v c s
 have hwl:=b5e s
 rw [b8P F s hs (by omega),a8]
 rw [a9E (xs:=a1M s) (a1z c.Stops) 2000000 F (by omega) (fun i w acc hw hB=>?_) (fun acc=>?_) [] (by rw [List.nil_append];unfold a2H at hpl;omega),List.nil_append]
 ·rfl
 ·have hi:=(i4.1 hw).1
  have hww:=a9k (l7 hw)
  have h12:=N3 hww
  have hst:=b7G w.Text
  rw [b8 (by omega),i9,n5,hw,a8,b0Z F _ (by omega) (by omega),a8,y2 (by omega),a8,b3P F _ _ hc hF2,a8,b3P F _ _ hc hF2]
  unfold a1z at hB ⊢
  revert hB
  rw [R2]
  cases c.Stops.any (· ==w.Text)
  ·simp only [Bool.not_false,i9,a8,q8]
   cases c.Stops.any (· ==a0U w.Text)
   ·intro hB
    simp only [Bool.not_false,i9] at hB ⊢
    rw [F1 (by simp at hB ⊢;omega)];rfl
   ·intro _;simp
  ·intro _;simp
 ·rw [c6 (by omega)];rfl
theorem a6C {α:Type}{xs:List α}{k:Nat}(h:k≤xs.length):Y9 xs (k:Int) xs.length=some (xs.drop k):=by
 rw [Y9,if_pos (by omega)];simp
theorem b71 {l:List C8}{fr:List q9}(h:a2u l fr=true):fr.length≤l.length:=by
 rcases Nat.lt_or_ge l.length fr.length with h1 | h1
 ·rw [a9p h1] at h;cases h
 ·exact h1
theorem b6g {syns:List V7}{l:List C8}{y:V7}(h:a6o syns l=some y):a2u l y.From=true:=by
 have: ∀(ss:List V7) (b:Option V7),(∀z,b=some z→a2u l z.From=true)→∀z,ss.foldl (a1I l) b=some z→a2u l z.From=true:=by
  intro ss
  induction ss with
  | nil=>intro b hb z h;exact hb z h
  | cons x r ih=>
   intro b hb z h
   rw [List.foldl_cons] at h
   refine ih _ (fun z hz=>?_) z h
   unfold a1I at hz
   split at hz
   ·rename_i hc
    cases hz
    simp only [l8] at hc
    exact hc.1
   ·exact hb z hz
 exact this syns none (by simp) y h
theorem a6W (F:Nat)(c:u5)(s:q9)(hcs:X2 c=true)(hs:s.length≤2000000)(hF:s.length+30<F):R0 F c s=some (G3 c s):=by
 unfold R0
 have hst:=a6I hcs
 have hp:=b6p hcs
 have hfr:=b4u hcs
 rw [b8L F c s hs (by omega) (by omega) (by omega),a8]
 have hpl:=a8v c s
 unfold G3
 obtain⟨l,hl⟩: ∃l,l=a2H c s:=⟨_,rfl⟩
 rw [←hl] at hpl ⊢
 rw [a8y (t:=a4G c.Syns l.length l) (fun i st=>∃(out:List C8) (o:Nat),st=(out,l.drop o)∧i≤o∧out.length≤o∧o≤l.length+3∧out++a4G c.Syns (l.length-o) (l.drop o)=a4G c.Syns l.length l) l.length
  (fun i st hi ⟨out,o,e1,e2,e3,e4,e5⟩=>?_) (fun st ⟨out,o,e1,e2,e3,e4,e5⟩=>?_) l.length 0 (([]:List C8),l) F (by omega) (by omega) ⟨[],0,rfl,by omega,by simp,by omega,by simp⟩]
 ·rfl
 ·subst e1
  rcases Nat.lt_or_ge o l.length with hol | hol
  ·refine .inl ?_
   have hdl:(l.drop o).length=l.length-o:=List.length_drop
   have hd0:(l.drop o)[0]? =some l[o]:=by rw [List.getElem?_drop,Nat.add_zero];exact j4 hol
   have h00:u0 (l.drop o) (0:Int)=some l[o]:=by rw [show (0:Int)=((0:Nat):Int) from rfl,n5];exact hd0
   obtain⟨k,hk,hor⟩:=c2J F c (l.drop o) (by omega) (by omega) (fun r hr=>by have:=hfr r hr;omega) (by omega)
   rw [b8 (by simp only;omega),i9,hk,a8,h00]
   have hr:=b7b hp hol
   rcases hor with ⟨h1,hb⟩ | ⟨y,h1,h2,hb⟩
   ·rw [hb] at hr
    rw [b8 h1,i9,a8,F1 (by simp;omega),a8]
    simp only
    rw [show (1:Int)=((1:Nat):Int) from rfl,a6C (by omega),a8,List.drop_drop]
    exact⟨_,rfl,_,_,rfl,by omega,by rw [n9,j9];omega,by omega,by rw [List.append_assoc,←e5,hr];rfl⟩
   ·rw [hb] at hr
    have hy:=hp y (a5c hb)
    have hy3:=hfr y (a5c hb)
    have hyl:=b71 (b6g hb)
    rw [c6 (by omega),i6,h2,a8,a8,F1 (by simp;omega),a8,a8]
    simp only
    rw [a6C (by omega),a8,List.drop_drop]
    exact⟨_,rfl,_,_,rfl,by omega,by rw [n9,j9];omega,by omega,by rw [List.append_assoc,←e5,hr];rfl⟩
  ·refine .inr ?_
   rw [List.drop_of_length_le hol]
   show some (Sum.inr out)=_
   rw [←e5,List.drop_of_length_le hol,b2C,List.append_nil]
 ·subst e1
  rw [List.drop_of_length_le (by omega)]
  show some (Sum.inr out)=_
  rw [←e5,List.drop_of_length_le (by omega),b2C,List.append_nil]
end Go.Fk
set_option linter.unusedVariables false
namespace Go.Fk
open Go
theorem b7D (F:Nat)(l:List q9)(s:q9)(hl:l.length≤1000000)(hF:l.length<F):a0j F l s=some (a4K s l):=by
 unfold a0j
 have hw: ∀f,(∀(i:Nat) x,l[i]? =some x→f (i:Int)=some (if C4 x s then .inl ((i+1:Nat):Int) else .inr (i:Int)))→f (l.length:Int)=some (.inr (l.length:Int))→v8 f F (0:Int)=some ((a21 s l:Nat):Int):=fun f a b=>by
  have:=b1A (f:=f) a b l.length 0 F (by omega) (by omega)
  rwa [List.drop_zero,Nat.zero_add] at this
 rw [hw _ (fun i x hx=>?_) ?_]
 ·have hr:=b69 s l
  have c1:Y9 l 0 ((a21 s l:Nat):Int)=some (l.take (a21 s l)):=by
   unfold Y9
   rw [if_pos ⟨by omega,by omega,by omega⟩]
   simp
  have c2:Y9 l ((a21 s l:Nat):Int) (l.length:Int)=some (l.drop (a21 s l)):=a6C hr
  have l1:(l.take (a21 s l)).length≤1000000:=by simp;omega
  have l2:(l.drop (a21 s l)).length≤1000000:=by simp;omega
  have l0:([]:List q9).length=0:=rfl
  have hc:(cond (decide (((a21 s l:Nat):Int)<(l.length:Int))) (Option.bind (u0 l ((a21 s l:Nat):Int)) fun x57=>some (x57==s)) (some false))=some ((l[a21 s l]?).elim false fun x=>x==s):=by
   rcases Nat.lt_or_ge (a21 s l) l.length with h | h
   ·rw [b8 (by omega),i9,n5,j4 h];rfl
   ·rw [c6 (by omega),List.getElem?_eq_none h];rfl
  rw [a8,a8,hc,a8,b6P,R2]
  cases (l[a21 s l]?).elim false fun x=>x==s
  ·simp only [i6]
   rw [c1,a8,F1 (by omega),List.nil_append,a8,F1 (by simp only [j9];omega),a8,c2,a8,
    F1 (by simp only [n9,j9];omega),a8]
  ·rfl
 ·rw [c6 (by omega)];rfl
 ·have hi:=(i4.1 hx).1
  rw [b8 (by omega),i9,n5,hx,a8,a8,y2 (by omega)]
  cases C4 x s<;>rfl
def H5 (d:y5)(n:q9):q9:=(d.Fields.find? fun f=>f.Name==n).elim [] (·.Text)
def a8T (a:List q9)(ts:List C8):List q9:=ts.foldl (fun a t=>a4K t.Text a) a
def a0b (docs:List y5):List q9:=docs.foldl (fun a d=>d.Fields.foldl (fun a f=>a4K f.Name a) a) []
def L5 (c:u5)(docs:List y5)(n:q9):List q9:=docs.foldl (fun a d=>a8T a (G3 c (H5 d n))) []
def a1A (c:u5)(d:y5)(n t:q9):List Int:=(G3 c (H5 d n)).flatMap fun x=>if x.Text==t then [x.At] else []
def R1 (c:u5)(n t:q9)(d:y5):List G7:=if decide (0<(a1A c d n t).length) then [⟨d.Id,a1A c d n t⟩] else []
def M4 (c:u5)(docs:List y5)(n t:q9):B1:=⟨n,t,docs.flatMap (R1 c n t)⟩
def a1L (c:u5)(docs:List y5):A7:=⟨docs,(a0b docs).flatMap fun n=>(L5 c docs n).map (M4 c docs n)⟩
theorem b0w {d:y5}(hd:a7o d)(n:q9):(H5 d n).length≤1000:=by
 unfold H5
 cases h:d.Fields.find? fun f=>f.Name==n with
 | none=>simp
 | some f=>exact(hd.field f (List.mem_of_find?_eq_some h)).2
theorem b3O (F:Nat)(d:y5)(n:q9)(hd:a7o d)(hF:200<F):a0N F d n=some (H5 d n):=by
 have h1:=hd.fields
 unfold a0N
 rw [a1b (xs:=d.Fields) (fun f=>f.Name==n) (fun f=>(Sum.inr f.Text:Unit⊕q9)) (e:=Sum.inl ()) F (by omega) (fun i x hx=>?_) ?_]
 ·unfold H5
  cases d.Fields.find? fun f=>f.Name==n<;>rfl
 ·rw [c6 (by omega)];rfl
 ·have hi:=(i4.1 hx).1
  rw [b8 (by omega),i9,n5,hx,a8,a8,y2 (by omega),R2]
  cases x.Name==n<;>rfl
theorem b3Q (F:Nat)(docs:List y5)(hd:Q2 docs)(hF:200000<F):a2g F docs=some (a0b docs)∧(a0b docs).length≤10000:=by
 have hfew:=hd.few
 unfold a2g a0b
 have key:=U5 (xs:=docs) (fun a d=>d.Fields.foldl (fun a f=>a4K f.Name a) a) (fun i (a:List q9)=>a.length≤i*100) id (fun a i=>(a,i))
  (f:=fun s22=>(cond (decide (s22.2<(docs.length:Int))) (Option.bind ((Option.bind (v8 (σ:=(List q9)×Int) (τ:=(List q9)) (fun (s51:(List q9)×Int)=>(Option.bind (u0 docs s22.2) fun x67=>(cond (decide (s51.2<(x67.Fields.length:Int))) (Option.bind (u0 docs s22.2) fun x87=>(Option.bind (u0 x87.Fields s51.2) fun x105=>(Option.bind (a0j F s51.1 x105.Name) fun r116=>(some (.inl (r116,(A1 (s51.2+(1:Int))))))))) (some (.inr s51.1))))) F (s22.1,(0:Int))) fun r52=>(some r52)):Option (List q9)) fun o40=>(some (.inl (o40,(A1 (s22.2+(1:Int))))))) (some (.inr s22.1))))
  [] rfl F (by omega) (by simp) (fun i d a hx ha=>?_) (fun a ha=>?_)
 ·obtain⟨k1,k2⟩:=key
  refine⟨?_,?_⟩
  ·rw [k1];rfl
  ·have:docs.length*100≤10000:=by omega
   omega
 ·have hi:=(i4.1 hx).1
  have hdd:=hd.doc d (l7 hx)
  have hfl:=hdd.fields
  have inner:=U5 (xs:=d.Fields) (fun a (f:O0)=>a4K f.Name a) (fun j (b:List q9)=>b.length≤i*100+j) id (fun a i=>(a,i))
   (f:=fun (s51:(List q9)×Int)=>(Option.bind (u0 docs (i:Int)) fun x67=>(cond (decide (s51.2<(x67.Fields.length:Int))) (Option.bind (u0 docs (i:Int)) fun x87=>(Option.bind (u0 x87.Fields s51.2) fun x105=>(Option.bind (a0j F s51.1 x105.Name) fun r116=>(some (.inl (r116,(A1 (s51.2+(1:Int))))))))) (some (.inr s51.1)))))
   a rfl F (by omega) (by omega) (fun j f b hf hb=>?_) (fun b hb=>?_)
  ·obtain⟨k1,k2⟩:=inner
   refine⟨?_,by omega⟩
   simp only
   rw [b8 (by omega),i9,k1,a8,a8,y2 (by omega)]
   rfl
  ·have hj:=(i4.1 hf).1
   have hil:=a9L f.Name b
   refine⟨?_,by omega⟩
   simp only
   rw [n5,hx,a8,b8 (by omega),i9,a8,n5,hf,a8,b7D F b _ (by omega) (by omega),a8,y2 (by omega)]
  ·simp only
   rw [n5,hx,a8,c6 (by omega)];rfl
 ·simp only
  rw [c6 (by omega)];rfl
theorem a9G {α σ:Type}{g:σ→α→σ}(I:Nat→σ→Prop): ∀(xs:List α) (i:Nat) (s:σ),I i s→(∀i x s,x∈xs→I i s→I (i+1) (g s x))→I (i+xs.length) (xs.foldl g s)
 | [],i,s,h,_=>h
 | x::r,i,s,h,hg=>by
  rw [List.foldl_cons,r4,show i+(r.length+1)=i+1+r.length by omega]
  exact a9G I r (i+1) _ (hg i x s (by simp) h) fun i y s hy=>hg i y s (by simp [hy])
theorem b66 (ts:List C8)(a:List q9):(a8T a ts).length≤a.length+ts.length:=by
 have:=a9G (g:=fun a (t:C8)=>a4K t.Text a) (fun i b=>b.length≤a.length+i) ts 0 a (by omega) (fun i t b _ hb=>by have:=a9L t.Text b;show (a4K t.Text b).length≤_;omega)
 unfold a8T;omega
theorem a8n {c:u5}{d:y5}(hd:a7o d)(n:q9):(G3 c (H5 d n)).length≤1000:=by
 have:=a3u c (H5 d n)
 have:=b0w hd n
 omega
theorem b2W (c:u5){docs:List y5}(hd:Q2 docs)(n:q9):(L5 c docs n).length≤100000:=by
 have hfew:=hd.few
 have:=a9G (g:=fun a d=>a8T a (G3 c (H5 d n))) (fun i b=>b.length≤i*1000) docs 0 [] (by simp) (fun i d b hm hb=>by have:=b66 (G3 c (H5 d n)) b;have:=a8n (c:=c) (hd.doc d hm) n;show (a8T b _).length≤_;omega)
 unfold L5;omega
theorem b7z (F:Nat)(c:u5)(docs:List y5)(n:q9)(hc:X2 c=true)(hd:Q2 docs)(hF:200000<F):a2h F c docs n=some (L5 c docs n):=by
 have hfew:=hd.few
 unfold a2h L5
 rw [(U5 (xs:=docs) (fun a d=>a8T a (G3 c (H5 d n))) (fun i (a:List q9)=>a.length≤i*1000) id (fun a i=>(a,i)) [] rfl F (by omega) (by simp) (fun i d a hx ha=>?_) (fun a ha=>?_)).1]
 ·rfl
 ·have hi:=(i4.1 hx).1
  have hdd:=hd.doc d (l7 hx)
  have hfl:=b0w hdd n
  have hone:=a8n (c:=c) hdd n
  refine⟨?_,?_⟩
  ·simp only
   rw [b8 (by omega),i9,n5,hx,a8,b3O F d n hdd (by omega),a8,a6W F c _ hc (by omega) (by omega),a8]
   rw [(U5 (xs:=G3 c (H5 d n)) (fun a (t:C8)=>a4K t.Text a) (fun j (b:List q9)=>b.length≤i*1000+j) id (fun a i=>(a,i)) a rfl F (by omega) (by rw [Nat.add_zero];exact ha) (fun j t b ht hb=>?_) (fun b hb=>?_)).1,a8,a8,y2 (by omega)]
   ·rfl
   ·have hj:=(i4.1 ht).1
    have hil:=a9L t.Text b
    refine⟨?_,by omega⟩
    simp only
    rw [b8 (by omega),i9,n5,ht,a8,b7D F b _ (by omega) (by omega),a8,y2 (by omega)]
   ·simp only
    rw [c6 (by omega)];rfl
  ·have:=b66 (G3 c (H5 d n)) a
   omega
 ·simp only
  rw [c6 (by omega)];rfl
theorem c2g {c:u5}{d:y5}(hd:a7o d)(n t:q9):(a1A c d n t).length≤1000:=by
 have h1:=W3 (g:=fun x:C8=>if x.Text==t then [x.At] else []) (m:=1) (G3 c (H5 d n)) (fun x _=>by split<;>simp)
 have h2:=a8n (c:=c) hd n
 unfold a1A;omega
theorem c0S (F:Nat)(c:u5)(d:y5)(n t:q9)(hc:X2 c=true)(hd:a7o d)(hF:200000<F):a2V F c d n t=some (a1A c d n t):=by
 have hfl:=b0w hd n
 have hone:=a8n (c:=c) hd n
 have hpl:=c2g (c:=c) hd n t
 unfold a2V
 rw [b3O F d n hd (by omega),a8,a6W F c _ hc (by omega) (by omega),a8]
 rw [a9E (xs:=G3 c (H5 d n)) (fun x:C8=>if x.Text==t then [x.At] else []) 1000 F (by omega) (fun i x acc hx hB=>?_) (fun acc=>?_) [] (by rw [List.nil_append];exact hpl),List.nil_append,a8,a8]
 ·rfl
 ·have hi:=(i4.1 hx).1
  rw [b8 (by omega),i9,n5,hx,a8,a8,y2 (by omega)]
  revert hB
  rw [R2]
  cases x.Text==t
  ·intro _;simp
  ·intro hB
   simp only [i9] at hB ⊢
   rw [F1 (by simp at hB ⊢;omega)];rfl
 ·rw [c6 (by omega)];rfl
theorem b1a (c:u5)(n t:q9)(d:y5):(R1 c n t d).length≤1:=by unfold R1;split<;>simp
theorem b8H (F:Nat)(c:u5)(docs:List y5)(n t:q9)(hc:X2 c=true)(hd:Q2 docs)(hF:200000<F):a2e F c docs n t=some (M4 c docs n t):=by
 have hfew:=hd.few
 unfold a2e
 have hfold:M4 c docs n t=docs.foldl (fun e d=>B1.mk e.Field e.Term (e.Posts++R1 c n t d)) (B1.mk n t []):=by
  have gen: ∀(l:List y5) (ps:List G7),l.foldl (fun e d=>B1.mk e.Field e.Term (e.Posts++R1 c n t d)) (B1.mk n t ps)=B1.mk n t (ps++l.flatMap (R1 c n t)):=by
   intro l
   induction l with
   | nil=>intro ps;simp
   | cons d r ih=>intro ps;rw [List.foldl_cons,ih,List.flatMap_cons,List.append_assoc]
  rw [gen];rfl
 rw [hfold]
 rw [(U5 (xs:=docs) (fun e d=>B1.mk e.Field e.Term (e.Posts++R1 c n t d)) (fun i (e:B1)=>e.Posts.length≤i∧e.Field=n∧e.Term=t) id (fun e i=>(i,e)) (B1.mk n t []) rfl F (by omega) ⟨by simp,rfl,rfl⟩ (fun i d e hx ⟨he,e1,e2⟩=>?_) (fun a ha=>?_)).1]
 ·rfl
 ·have hi:=(i4.1 hx).1
  have hdd:=hd.doc d (l7 hx)
  have hp1:=b1a c n t d
  refine⟨?_,by simp only [n9];omega,e1,e2⟩
  simp only
  rw [b8 (by omega),i9,n5,hx,a8,c0S F c d n t hc hdd hF,a8,a8,y2 (by omega)]
  unfold R1
  by_cases h0:0<(a1A c d n t).length
  ·rw [b8 (by omega),i9,F1 (by simp only [j9];omega),a8,b8 h0,if_pos rfl]
  ·rw [c6 (by omega),i6,c6 h0,if_neg (by simp),List.append_nil]
 ·simp only
  rw [c6 (by omega)];rfl
theorem b4R {docs:List y5}(hd:Q2 docs):(a0b docs).length≤10000:=(b3Q 200001 docs hd (by omega)).2
theorem c2y {c:u5}{docs:List y5}{ns:List q9}: ∀(l:List q9) (es:List B1),l.foldl (fun s n=>(L5 c docs n).foldl (fun s t=>A7.mk s.Docs (s.Entries++[M4 c docs n t])) s) (A7.mk [] es)=A7.mk [] (es++l.flatMap fun n=>(L5 c docs n).map (M4 c docs n)):=by
 intro l
 induction l with
 | nil=>intro es;simp
 | cons n r ih=>
  intro es
  have inner: ∀(ts:List q9) (es:List B1),ts.foldl (fun s t=>A7.mk s.Docs (s.Entries++[M4 c docs n t])) (A7.mk [] es)=A7.mk [] (es++ts.map (M4 c docs n)):=by
   intro ts
   induction ts with
   | nil=>intro es;simp
   | cons t r ih=>intro es;rw [List.foldl_cons,ih,List.map_cons,List.append_assoc];rfl
  rw [List.foldl_cons,inner,ih,List.flatMap_cons,List.append_assoc]
theorem b94 {es:List B1}: ∀(l ds:List y5),l.foldl (fun s d=>A7.mk (s.Docs++[d]) s.Entries) (A7.mk ds es)=A7.mk (ds++l) es:=by
 intro l
 induction l with
 | nil=>intro ds;simp
 | cons d r ih=>intro ds;rw [List.foldl_cons,ih,List.append_assoc];rfl
theorem b7E (F:Nat)(c:u5)(docs:List y5)(hc:X2 c=true)(hd:Q2 docs)(hF:200000<F):a3o F c docs=some (a1L c docs):=by
 have hfew:=hd.few
 have hnl:=b4R hd
 unfold a3o
 rw [(b3Q F docs hd hF).1,a8]
 rw [(U5 (xs:=a0b docs) (fun s n=>(L5 c docs n).foldl (fun s t=>A7.mk s.Docs (s.Entries++[M4 c docs n t])) s) (fun i (s:A7)=>s.Entries.length≤i*100000) id (fun e i=>(i,e)) (A7.mk [] []) rfl F (by omega) (by simp) (fun i n s hx hs=>?_) (fun a ha=>?_)).1]
 ·rw [c2y (ns:=[]),a8,a8]
  rw [(U5 (xs:=docs) (fun s d=>A7.mk (s.Docs++[d]) s.Entries) (fun i (s:A7)=>s.Docs.length≤i) id (fun e i=>(i,e)) _ rfl F (by omega) (by simp) (fun i d s hx hs=>?_) (fun a ha=>?_)).1]
  ·rw [b94,a8,a8];rfl
  ·have hi:=(i4.1 hx).1
   have hdd:=hd.doc d (l7 hx)
   have hf1:=hdd.fields
   have hf2:=hdd.nums
   refine⟨?_,by simp only [n9,j9];omega⟩
   simp only
   rw [b8 (by omega),i9,n5,hx,a8,b8E F d (by omega) (by omega),a8,F1 (by simp only [j9];omega),a8,y2 (by omega)]
  ·simp only
   rw [c6 (by omega)];rfl
 ·have hi:=(i4.1 hx).1
  have hft:=b2W c hd n
  have inner:=a9G (g:=fun s t=>A7.mk s.Docs (s.Entries++[M4 c docs n t])) (fun j (b:A7)=>b.Entries.length≤i*100000+j) (L5 c docs n) 0 s (by rw [Nat.add_zero];exact hs) (fun j t b _ hb=>by simp only [n9,j9];omega)
  refine⟨?_,by omega⟩
  simp only
  rw [b8 (by omega),i9,n5,hx,a8,b7z F c docs n hc hd hF,a8]
  rw [(U5 (xs:=L5 c docs n) (fun s t=>A7.mk s.Docs (s.Entries++[M4 c docs n t])) (fun j (b:A7)=>b.Entries.length≤i*100000+j) id (fun e i=>(i,e)) s rfl F (by omega) (by rw [Nat.add_zero];exact hs) (fun j t b ht hb=>?_) (fun b hb=>?_)).1,a8,a8,y2 (by omega)]
  ·rfl
  ·have hj:=(i4.1 ht).1
   refine⟨?_,by simp only [n9,j9];omega⟩
   simp only
   rw [b8 (by omega),i9,a8,n5,ht,a8,b8H F c docs n t hc hd hF,a8,F1 (by simp only [j9];omega),a8,y2 (by omega)]
  ·simp only
   rw [c6 (by omega)];rfl
 ·simp only
  rw [c6 (by omega)];rfl
end Go.Fk
set_option linter.unusedVariables false
namespace Go.Fk
open Go
abbrev Occ:=(q9×q9)×(Int×Int)
def T0 (ps:List G7)(id:Int)(at_:Int):List G7:=
 match (if O5 ps id then ps++[G7.mk id []] else ps).getLast? with
 | none=>[]
 | some p=>(if O5 ps id then ps++[G7.mk id []] else ps).dropLast++[G7.mk p.Doc (p.At++[at_])]
def a6z (o:Occ):List B1→List B1
 | []=>[⟨o.1.1,o.1.2,T0 [] o.2.1 o.2.2⟩]
 | e::r=>if e.Field==o.1.1&&e.Term==o.1.2 then ⟨e.Field,e.Term,T0 e.Posts o.2.1 o.2.2⟩::r else e::a6z o r
def a34 (k:q9×q9):List (q9×q9)→List (q9×q9)
 | []=>[k]
 | x::r=>if x==k then x::r else x::a34 k r
def Y4 (os:List Occ):List (q9×q9):=os.foldl (fun ks o=>a34 o.1 ks) []
def b2z (l:List (Int×Int)):List G7:=l.foldl (fun ps q=>T0 ps q.1 q.2) []
def mkE (os:List Occ)(k:q9×q9):B1:=⟨k.1,k.2,b2z ((os.filter fun o=>o.1==k).map (·.2))⟩
theorem a89 {k x:q9×q9}: ∀{l:List (q9×q9)},x∈a34 k l↔x=k∨x∈l
 | []=>by simp [a34]
 | a::l=>by
  unfold a34
  split
  ·rename_i h
   have:=eq_of_beq h
   subst this
   rw [List.mem_cons]
   constructor
   ·rintro (h | h)<;>simp [h]
   ·rintro (h | h | h)<;>simp [h]
  ·rw [List.mem_cons,a89 (l:=l),List.mem_cons]
   constructor
   ·rintro (h1 | h1 | h1)<;>simp [h1]
   ·rintro (h1 | h1 | h1)<;>simp [h1]
theorem a9m {k:q9×q9}: ∀{l:List (q9×q9)},l.Nodup→(a34 k l).Nodup
 | [],_=>by simp [a34]
 | a::l,h=>by
  have hc:=List.nodup_cons.1 h
  unfold a34
  split
  ·exact h
  ·rename_i hne
   refine List.nodup_cons.2 ⟨fun hm=>?_,a9m hc.2⟩
   rcases a89.1 hm with e | hm
   ·exact hne (by simp [e])
   ·exact hc.1 hm
theorem b2M {k:q9×q9}: ∀{l:List (q9×q9)},k∉l→a34 k l=l++[k]
 | [],_=>rfl
 | a::l,h=>by
  have h1:(a==k)=false:=beq_eq_false_iff_ne.2 fun e=>h (by simp [e])
  unfold a34
  rw [h1,if_neg (by simp),b2M (l:=l) (fun hm=>h (by simp [hm]))];rfl
theorem b2N {k:q9×q9}: ∀{l:List (q9×q9)},k∈l→a34 k l=l
 | [],h=>by cases h
 | a::l,h=>by
  unfold a34
  split
  ·rfl
  ·rename_i hne
   rcases List.mem_cons.1 h with e | h
   ·exact absurd (by simp [e]) hne
   ·rw [b2N h]
theorem a7I (os:List Occ)(o:Occ):Y4 (os++[o])=a34 o.1 (Y4 os):=by
 unfold Y4;rw [List.foldl_append];rfl
theorem b4L: ∀(l pre:List Occ),((Y4 pre).Nodup∧∀k,k∈Y4 pre↔∃o∈pre,o.1=k)→(Y4 (pre++l)).Nodup∧∀k,k∈Y4 (pre++l)↔∃o∈pre++l,o.1=k
 | [],pre,h=>by rw [List.append_nil];exact h
 | o::l,pre,⟨h1,h2⟩=>by
  rw [show pre++o::l=(pre++[o])++l by simp]
  refine b4L l (pre++[o]) ⟨?_,fun k=>?_⟩
  ·rw [a7I];exact a9m h1
  ·rw [a7I,a89,h2]
   constructor
   ·rintro (rfl | ⟨q,hq,e⟩)
    ·exact⟨o,by simp,rfl⟩
    ·exact⟨q,by simp [hq],e⟩
   ·rintro⟨q,hq,e⟩
    rcases List.mem_append.1 hq with hq | hq
    ·exact .inr ⟨q,hq,e⟩
    ·rw [List.mem_singleton] at hq;subst hq;exact .inl e.symm
theorem b5D (os:List Occ):(Y4 os).Nodup∧∀k,k∈Y4 os↔∃o∈os,o.1=k:=by
 have:=b4L os [] ⟨List.nodup_nil,by simp [Y4]⟩
 simpa using this
theorem a7L (os:List Occ)(o:Occ)(k:q9×q9):mkE (os++[o]) k=if o.1==k then ⟨k.1,k.2,T0 (mkE os k).Posts o.2.1 o.2.2⟩ else mkE os k:=by
 unfold mkE
 rw [List.filter_append]
 cases h:o.1==k
 ·rw [List.filter_cons,h];simp
 ·rw [List.filter_cons,h];simp [b2z,List.foldl_append]
theorem b9A {os:List Occ}{o:Occ}: ∀{ks:List (q9×q9)},ks.Nodup→o.1∈ks→a6z o (ks.map (mkE os))=ks.map (mkE (os++[o]))
 | [],_,h=>by cases h
 | k::ks,hn,h=>by
  have hc:=List.nodup_cons.1 hn
  have hpick:((mkE os k).Field==o.1.1&&(mkE os k).Term==o.1.2)=(k==o.1):=rfl
  rw [List.map_cons,List.map_cons,a6z,hpick]
  by_cases he:k=o.1
  ·subst he
   rw [beq_self_eq_true,if_pos rfl,a7L,beq_self_eq_true,if_pos rfl]
   congr 1
   refine List.map_congr_left fun x hx=>?_
   have:(o.1==x)=false:=beq_eq_false_iff_ne.2 fun e=>hc.1 (e▸hx)
   rw [a7L,this,if_neg (by simp)]
  ·have h1:(k==o.1)=false:=beq_eq_false_iff_ne.2 he
   have h2:(o.1==k)=false:=beq_eq_false_iff_ne.2 fun e=>he e.symm
   rw [h1,if_neg (by simp),a7L,h2,if_neg (by simp)]
   congr 1
   rcases List.mem_cons.1 h with e | h
   ·exact absurd e.symm he
   ·exact b9A hc.2 h
theorem b9y {o:Occ}: ∀{es:List B1},(∀e∈es,(e.Field==o.1.1&&e.Term==o.1.2)=false)→a6z o es=es++[⟨o.1.1,o.1.2,T0 [] o.2.1 o.2.2⟩]
 | [],_=>rfl
 | e::es,h=>by
  rw [a6z,h e (by simp),if_neg (by simp),b9y (fun e he=>h e (by simp [he]))];rfl
theorem c3F {os:List Occ}{o:Occ}{ks:List (q9×q9)}(h:o.1∉ks)(hos: ∀q∈os,q.1∈ks):a6z o (ks.map (mkE os))=(ks++[o.1]).map (mkE (os++[o])):=by
 rw [b9y (fun e he=>?_),List.map_append]
 ·congr 1
  ·refine List.map_congr_left fun x hx=>?_
   have:(o.1==x)=false:=beq_eq_false_iff_ne.2 fun e=>h (e▸hx)
   rw [a7L,this,if_neg (by simp)]
  ·rw [List.map_singleton,a7L,beq_self_eq_true,if_pos rfl]
   have:os.filter (fun q=>q.1==o.1)=[]:=List.filter_eq_nil_iff.2 fun q hq e=>h (by have:=eq_of_beq e;rw [←this];exact hos q hq)
   simp [mkE,this,b2z]
 ·obtain⟨k,hk,rfl⟩:=List.mem_map.1 he
  show (k==o.1)=false
  exact beq_eq_false_iff_ne.2 fun e=>h (e▸hk)
theorem b65: ∀(l pre:List Occ),l.foldl (fun es o=>a6z o es) ((Y4 pre).map (mkE pre))=(Y4 (pre++l)).map (mkE (pre++l))
 | [],pre=>by rw [List.append_nil];rfl
 | o::l,pre=>by
  have hk:=b5D pre
  have hst:a6z o ((Y4 pre).map (mkE pre))=(Y4 (pre++[o])).map (mkE (pre++[o])):=by
   rw [a7I]
   by_cases h:o.1∈Y4 pre
   ·rw [b2N h,b9A hk.1 h]
   ·rw [b2M h,c3F h fun q hq=>(hk.2 _).2 ⟨q,hq,rfl⟩]
  rw [List.foldl_cons,hst,b65 l (pre++[o]),show pre++[o]++l=pre++o::l by simp]
theorem b64 (os:List Occ):os.foldl (fun es o=>a6z o es) []=(Y4 os).map (mkE os):=by
 have:=b65 os []
 simpa [Y4] using this
end Go.Fk
set_option linter.unusedVariables false
namespace Go.Fk
open Go
theorem a5b (c:u5):G3 c []=[]:=by
 have h:=a3u c []
 exact List.eq_nil_of_length_eq_zero (by simp at h;simp [h])
theorem b2V {α:Type}(h:α→q9){x:q9}: ∀(l:List α) (a:List q9),x∈l.foldl (fun a y=>a4K (h y) a) a↔x∈a∨∃y∈l,h y=x
 | [],a=>by simp
 | y::r,a=>by
  rw [List.foldl_cons,b2V h r,b27]
  constructor
  ·rintro ((rfl | h1) | ⟨z,hz,e⟩)
   ·exact .inr ⟨y,by simp,rfl⟩
   ·exact .inl h1
   ·exact .inr ⟨z,by simp [hz],e⟩
  ·rintro (h1 | ⟨z,hz,e⟩)
   ·exact .inl (.inr h1)
   ·rcases List.mem_cons.1 hz with rfl | hz
    ·exact .inl (.inl e.symm)
    ·exact .inr ⟨z,hz,e⟩
theorem a7A {α:Type}(h:α→q9): ∀(l:List α) (a:List q9),a7q a→a7q (l.foldl (fun a y=>a4K (h y) a) a)
 | [],a,ha=>ha
 | y::r,a,ha=>by rw [List.foldl_cons];exact a7A h r _ (b1q ha)
theorem b0E (n:q9): ∀(docs:List y5) (a:List q9),(a7q a→a7q (docs.foldl (fun a d=>d.Fields.foldl (fun a f=>a4K f.Name a) a) a))∧(n∈docs.foldl (fun a d=>d.Fields.foldl (fun a f=>a4K f.Name a) a) a↔n∈a∨∃d∈docs,∃f∈d.Fields,f.Name=n)
 | [],a=>by simp
 | d::r,a=>by
  have ih:=b0E n r (d.Fields.foldl (fun a f=>a4K f.Name a) a)
  rw [List.foldl_cons]
  refine⟨fun h=>ih.1 (a7A (fun f:O0=>f.Name) _ _ h),?_⟩
  rw [ih.2,b2V (fun f:O0=>f.Name)]
  constructor
  ·rintro ((h | h) | ⟨e,he,h⟩)
   ·exact .inl h
   ·exact .inr ⟨d,by simp,h⟩
   ·exact .inr ⟨e,by simp [he],h⟩
  ·rintro (h | ⟨e,he,h⟩)
   ·exact .inl (.inl h)
   ·rcases List.mem_cons.1 he with rfl | he
    ·exact .inl (.inr h)
    ·exact .inr ⟨e,he,h⟩
theorem a8q {docs:List y5}{n:q9}:n∈a0b docs↔∃d∈docs,∃f∈d.Fields,f.Name=n:=by
 have:=(b0E n docs []).2
 simpa [a0b] using this
theorem a6N (docs:List y5):a7q (a0b docs):=(b0E [] docs []).1 List.Pairwise.nil
theorem a88 (c:u5)(n t:q9): ∀(docs:List y5) (a:List q9),(a7q a→a7q (docs.foldl (fun a d=>a8T a (G3 c (H5 d n))) a))∧(t∈docs.foldl (fun a d=>a8T a (G3 c (H5 d n))) a↔t∈a∨∃d∈docs,∃x∈G3 c (H5 d n),x.Text=t)
 | [],a=>by simp
 | d::r,a=>by
  have ih:=a88 c n t r (a8T a (G3 c (H5 d n)))
  rw [List.foldl_cons]
  refine⟨fun h=>ih.1 (a7A (fun x:C8=>x.Text) _ _ h),?_⟩
  rw [ih.2]
  unfold a8T
  rw [b2V (fun x:C8=>x.Text)]
  constructor
  ·rintro ((h | h) | ⟨e,he,h⟩)
   ·exact .inl h
   ·exact .inr ⟨d,by simp,h⟩
   ·exact .inr ⟨e,by simp [he],h⟩
  ·rintro (h | ⟨e,he,h⟩)
   ·exact .inl (.inl h)
   ·rcases List.mem_cons.1 he with rfl | he
    ·exact .inl (.inr h)
    ·exact .inr ⟨e,he,h⟩
theorem a38 {c:u5}{docs:List y5}{n t:q9}:t∈L5 c docs n↔∃d∈docs,∃x∈G3 c (H5 d n),x.Text=t:=by
 have:=(a88 c n t docs []).2
 simpa [L5] using this
theorem a51 (c:u5)(docs:List y5)(n:q9):a7q (L5 c docs n):=(a88 c n [] docs []).1 List.Pairwise.nil
theorem b08 {ps:List G7}{id a:Int}(h:O5 ps id=true):T0 ps id a=ps++[G7.mk id [a]]:=by
 unfold T0
 rw [h];simp
theorem b5j {ps:List G7}{id a:Int}{as':List Int}:T0 (ps++[G7.mk id as']) id a=ps++[G7.mk id (as'++[a])]:=by
 have:O5 (ps++[G7.mk id as']) id=false:=by simp [O5]
 unfold T0
 rw [this];simp
theorem b4V {ps:List G7}{id:Int}: ∀(l as':List Int),(l.map fun a=>(id,a)).foldl (fun ps q=>T0 ps q.1 q.2) (ps++[G7.mk id as'])=ps++[G7.mk id (as'++l)]
 | [],as'=>by simp
 | a::l,as'=>by rw [List.map_cons,List.foldl_cons,b5j,b4V l,List.append_assoc];rfl
theorem b8u {ps:List G7}{id:Int}{l:List Int}(h:O5 ps id=true):(l.map fun a=>(id,a)).foldl (fun ps q=>T0 ps q.1 q.2) ps=ps++(if decide (0<l.length) then [G7.mk id l] else []):=by
 cases l with
 | nil=>simp
 | cons a l=>rw [List.map_cons,List.foldl_cons,b08 h,b4V];simp
theorem c3y {ps:List G7}{id:Int}(h: ∀p∈ps,p.Doc≠id):O5 ps id=true:=by
 unfold O5
 split
 ·rfl
 ·rename_i p hp
  have:=h p (List.mem_of_getLast? hp)
  simp [this]
theorem b3v (c:u5)(n t:q9): ∀(docs:List y5) (ps:List G7),(docs.Pairwise fun a b=>a.Id<b.Id)→(∀p∈ps,∀d∈docs,p.Doc<d.Id)→
  (docs.flatMap fun d=>(a1A c d n t).map fun a=>(d.Id,a)).foldl (fun ps q=>T0 ps q.1 q.2) ps=ps++docs.flatMap (R1 c n t)
 | [],ps,_,_=>by simp
 | d::r,ps,hd,hp=>by
  have hc:=List.pairwise_cons.1 hd
  rw [List.flatMap_cons,List.flatMap_cons,List.foldl_append,b8u (c3y fun p hm=>by have:=hp p hm d (by simp);omega),b3v c n t r _ hc.2 (fun p hm e he=>?_),List.append_assoc]
  ·rfl
  ·rcases List.mem_append.1 hm with hm | hm
   ·exact hp p hm e (by simp [he])
   ·split at hm
    ·rw [List.mem_singleton] at hm;subst hm;exact hc.1 e he
    ·cases hm
def a2W (c:u5)(id:Int)(f:O0):List Occ:=(G3 c f.Text).map fun x=>((f.Name,x.Text),(id,x.At))
def a6J (c:u5)(d:y5):List Occ:=d.Fields.flatMap (a2W c d.Id)
def a4M (c:u5)(docs:List y5):List Occ:=docs.flatMap (a6J c)
theorem c0v (c:u5)(id:Int)(f:O0)(n t:q9):((a2W c id f).filter fun o=>o.1==(n,t)).map (·.2)=if f.Name==n then ((G3 c f.Text).flatMap fun x=>if x.Text==t then [x.At] else []).map fun a=>(id,a) else []:=by
 unfold a2W
 generalize G3 c f.Text=l
 have hk: ∀x:C8,(((f.Name,x.Text):q9×q9)==(n,t))=(f.Name==n&&x.Text==t):=fun _=>rfl
 cases h:f.Name==n
 ·rw [if_neg (by simp),List.filter_eq_nil_iff.2 fun o ho e=>?_]
  ·rfl
  ·obtain⟨x,_,rfl⟩:=List.mem_map.1 ho
   have e':=(hk x).symm.trans e
   rw [h] at e';cases e'
 ·rw [if_pos rfl]
  induction l with
  | nil=>rfl
  | cons x r ih=>
   rw [List.map_cons,List.filter_cons,List.flatMap_cons,hk,h,q8,List.map_append,←ih]
   cases x.Text==t<;>rfl
theorem b28 (c:u5)(id:Int)(n t:q9): ∀(l:List O0),(l.Pairwise fun f g=>f.Name≠g.Name)→(((l.flatMap (a2W c id)).filter fun o=>o.1==(n,t)).map (·.2))=((G3 c ((l.find? fun f=>f.Name==n).elim [] (·.Text))).flatMap fun x=>if x.Text==t then [x.At] else []).map fun a=>(id,a)
 | [],_=>by simp [a5b]
 | f::r,h=>by
  have hc:=List.pairwise_cons.1 h
  have ih:=b28 c id n t r hc.2
  rw [List.flatMap_cons,List.filter_append,List.map_append,c0v,List.find?_cons]
  cases hn:f.Name==n
  ·rw [if_neg (by simp),List.nil_append,ih]
  ·have he:=eq_of_beq hn
   have hnone:r.find? (fun g=>g.Name==n)=none:=List.find?_eq_none.2 fun g hg e=>hc.1 g hg (he.trans (eq_of_beq e).symm)
   rw [if_pos rfl,ih,hnone]
   simp [a5b]
theorem b9n (c:u5)(n t:q9): ∀(docs:List y5),(∀d∈docs,d.Fields.Pairwise fun f g=>f.Name≠g.Name)→((a4M c docs).filter fun o=>o.1==(n,t)).map (·.2)=docs.flatMap fun d=>(a1A c d n t).map fun a=>(d.Id,a)
 | [],_=>by simp [a4M]
 | d::r,h=>by
  have ih:=b9n c n t r fun e he=>h e (by simp [he])
  unfold a4M at ih ⊢
  rw [List.flatMap_cons,List.filter_append,List.map_append,ih,List.flatMap_cons]
  congr 1
  exact b28 c d.Id n t d.Fields (h d (by simp))
structure a9l (docs:List y5):Prop where
 ids:docs.Pairwise fun a b=>a.Id<b.Id
 names: ∀d∈docs,d.Fields.Pairwise fun f g=>f.Name≠g.Name
theorem b4Q {c:u5}{docs:List y5}(h:a9l docs)(n t:q9):mkE (a4M c docs) (n,t)=M4 c docs n t:=by
 unfold mkE M4 b2z
 rw [b9n c n t docs h.names]
 have:=b3v c n t docs [] h.ids (by simp)
 rw [List.nil_append] at this
 simp only [this]
theorem b26 {c:u5}{d:y5}{o:Occ}:o∈a6J c d↔∃f∈d.Fields,∃x∈G3 c f.Text,o=((f.Name,x.Text),(d.Id,x.At)):=by
 unfold a6J a2W
 simp only [List.mem_flatMap,List.mem_map,eq_comm]
theorem c1O {d:y5}(h:d.Fields.Pairwise fun f g=>f.Name≠g.Name){f:O0}(hf:f∈d.Fields):H5 d f.Name=f.Text:=by
 have gen: ∀l:List O0,(l.Pairwise fun f g=>f.Name≠g.Name)→f∈l→(l.find? fun g=>g.Name==f.Name).elim [] (·.Text)=f.Text:=by
  intro l
  induction l with
  | nil=>intro _ h;cases h
  | cons g r ih=>
   intro hp hm
   have hc:=List.pairwise_cons.1 hp
   rw [List.find?_cons]
   rcases List.mem_cons.1 hm with rfl | hm
   ·rw [beq_self_eq_true];rfl
   ·have:(g.Name==f.Name)=false:=beq_eq_false_iff_ne.2 (hc.1 f hm)
    rw [this];exact ih hc.2 hm
 exact gen d.Fields h hf
theorem b6V {c:u5}{docs:List y5}(h:a9l docs)(e:B1):e∈(a1L c docs).Entries↔e∈(Y4 (a4M c docs)).map (mkE (a4M c docs)):=by
 unfold a1L
 rw [List.mem_flatMap,List.mem_map]
 have hk:=(b5D (a4M c docs)).2
 constructor
 ·rintro⟨n,hn,hm⟩
  obtain⟨t,ht,rfl⟩:=List.mem_map.1 hm
  refine⟨(n,t),(hk _).2 ?_,b4Q h n t⟩
  obtain⟨d,hd,x,hx,rfl⟩:=a38.1 ht
  unfold H5 at hx
  cases hf:d.Fields.find? fun f=>f.Name==n with
  | none=>
   rw [hf] at hx
   rw [Option.elim_none,a5b] at hx;cases hx
  | some f=>
   rw [hf] at hx
   have hfn:=List.find?_some hf
   exact⟨((f.Name,x.Text),(d.Id,x.At)),List.mem_flatMap.2 ⟨d,hd,b26.2 ⟨f,List.mem_of_find?_eq_some hf,x,hx,rfl⟩⟩,by rw [eq_of_beq hfn]⟩
 ·rintro⟨⟨n,t⟩,hkm,rfl⟩
  obtain⟨o,ho,hok⟩:=(hk _).1 hkm
  obtain⟨d,hd,hod⟩:=List.mem_flatMap.1 ho
  obtain⟨f,hf,x,hx,rfl⟩:=b26.1 hod
  cases hok
  refine⟨f.Name,a8q.2 ⟨d,hd,f,hf,rfl⟩,List.mem_map.2 ⟨x.Text,a38.2 ⟨d,hd,x,?_,rfl⟩,(b4Q h _ _).symm⟩⟩
  rw [c1O (h.names d hd) hf];exact hx
def ltE (a b:B1):Bool:=C4 a.Field b.Field||(a.Field==b.Field&&C4 a.Term b.Term)
theorem a4T (a b:B1):ltE a b=true↔C4 a.Field b.Field=true∨(a.Field=b.Field∧C4 a.Term b.Term=true):=by simp [ltE]
theorem b5J (a:B1):ltE a a=false:=by
 rw [Bool.eq_false_iff];intro h
 rcases (a4T a a).1 h with h | ⟨_,h⟩
 ·rw [a1G] at h;cases h
 ·rw [a1G] at h;cases h
theorem c47 {a b c:B1}(h:ltE a b=true)(h':ltE b c=true):ltE a c=true:=by
 rw [a4T] at h h' ⊢
 rcases h with h | ⟨e,h⟩
 ·rcases h' with h' | ⟨e',h'⟩
  ·exact .inl (a6B h h')
  ·exact .inl (e'▸h)
 ·rcases h' with h' | ⟨e',h'⟩
  ·exact .inl (e▸h')
  ·exact .inr ⟨e.trans e',a6B h h'⟩
theorem c44 {a b c:B1}(h:ltE a c=true):ltE a b=true∨ltE b c=true:=by
 rw [a4T] at h ⊢
 rw [a4T]
 rcases h with h | ⟨e,h⟩
 ·rcases c2B (b:=b.Field) h with h1 | h1
  ·exact .inl (.inl h1)
  ·exact .inr (.inl h1)
 ·by_cases e1:a.Field=b.Field
  ·rcases c2B (b:=b.Term) h with h1 | h1
   ·exact .inl (.inr ⟨e1,h1⟩)
   ·exact .inr (.inr ⟨e1▸e,h1⟩)
  ·rcases b7q e1 with h1 | h1
   ·exact .inl (.inl h1)
   ·exact .inr (.inl (e▸h1))
theorem c45 {a b:B1}(h:(a.Field,a.Term)≠(b.Field,b.Term)):ltE a b=true∨ltE b a=true:=by
 rw [a4T,a4T]
 by_cases e:a.Field=b.Field
 ·have:a.Term≠b.Term:=fun e'=>h (by rw [e,e'])
  rcases b7q this with h1 | h1
  ·exact .inl (.inr ⟨e,h1⟩)
  ·exact .inr (.inr ⟨e.symm,h1⟩)
 ·rcases b7q e with h1 | h1
  ·exact .inl (.inl h1)
  ·exact .inr (.inl h1)
theorem b1B (c:u5)(docs:List y5):(a1L c docs).Entries.Pairwise fun a b=>ltE a b=true:=by
 unfold a1L
 refine List.pairwise_flatMap.2 ⟨fun n _=>?_,?_⟩
 ·exact List.pairwise_map.2 (List.Pairwise.imp (R:=fun a b=>C4 a b=true) (fun {a b} h=>(a4T (M4 c docs n a) (M4 c docs n b)).2 (.inr ⟨rfl,h⟩)) (a51 c docs n))
 ·refine(a6N docs).imp fun {a b} h x hx y hy=>?_
  obtain⟨t,_,rfl⟩:=List.mem_map.1 hx
  obtain⟨u,_,rfl⟩:=List.mem_map.1 hy
  exact(a4T _ _).2 (.inl h)
theorem b23 (os:List Occ):((Y4 os).map (mkE os)).Pairwise fun a b=>ltE a b=true∨ltE b a=true:=
 List.pairwise_map.2 (List.Pairwise.imp (R:=fun a b=>a≠b) (fun {a b} h=>c45 (a:=mkE os a) (b:=mkE os b) h) (b5D os).1)
def b31 (x y:q9):Int:=if C4 x y then -1 else if !(C4 x y||x==y) then 1 else 0
theorem b85 (F:Nat)(x y:q9):P7 F x y=some (b31 x y):=by
 have hn: ∀s,S2 F s=some false:=fun s=>by unfold S2;simp
 unfold P7 b31
 rw [hn,hn,a8,a8,i6,i6,R2,R2]
 cases C4 x y
 ·cases x==y<;>rfl
 ·rfl
end Go.Fk
set_option linter.unusedVariables false
namespace Go.Fk
open Go
theorem c5h (F:Nat)(a b:Int):Q7 F [a,b]=some (if a=0 then b else a):=by
 unfold Q7
 simp only [r4,List.length_nil,C7]
 have g0:u0 [a,b] ((0:Nat):Int)=some a:=rfl
 have g1:u0 [a,b] ((0+1:Nat):Int)=some b:=rfl
 rw [g0]
 by_cases h:a=0
 ·subst h
  simp only [a8,beq_self_eq_true,l9,i6,Sum.elim_inl]
  rw [g1]
  by_cases hb:b=0
  ·subst hb;rfl
  ·rw [a8,beq_eq_false_iff_ne.2 hb];rfl
 ·rw [a8,beq_eq_false_iff_ne.2 h,if_neg h];rfl
def c5j (a b:B1):Int:=if b31 a.Field b.Field=0 then b31 a.Term b.Term else b31 a.Field b.Field
theorem b9q (F:Nat)(a b:B1):T2 F a b=some (c5j a b):=by
 unfold T2
 rw [b85,a8,b85,a8,c5h];rfl
theorem b6i (x y:q9):b31 x y<0↔C4 x y=true:=by
 unfold b31
 cases C4 x y
 ·cases x==y<;>simp
 ·simp
theorem b4s (x y:q9):b31 x y=0↔x=y:=by
 unfold b31
 cases h:C4 x y
 ·cases h2:x==y
  ·have:=beq_eq_false_iff_ne.1 h2
   simp [this]
  ·have:=eq_of_beq h2
   simp [this]
 ·rw [if_pos rfl]
  refine⟨fun e=>by omega,fun e=>?_⟩
  subst e;rw [a1G] at h;cases h
theorem c3D (F:Nat)(a b:B1):ltO (fun a b=>T2 F a b) a b=ltE a b:=by
 show decide ((T2 F a b).getD 0<0)=_
 rw [b9q]
 show decide (c5j a b<0)=_
 rw [Bool.eq_iff_iff,decide_eq_true_iff,a4T]
 unfold c5j
 by_cases h:b31 a.Field b.Field=0
 ·rw [if_pos h,b6i]
  have e:=(b4s _ _).1 h
  rw [e,a1G];simp
 ·rw [if_neg h,b6i]
  have e:a.Field≠b.Field:=fun e=>h ((b4s _ _).2 e)
  simp [e]
def a5T (B:Nat)(es:List B1):Prop:=es.length≤B∧∀e∈es,e.Posts.length≤B∧∀p∈e.Posts,p.At.length≤B
theorem a9n {B:Nat}{ps:List G7}{id a:Int}(h:ps.length≤B∧∀p∈ps,p.At.length≤B):(T0 ps id a).length≤B+1∧∀p∈T0 ps id a,p.At.length≤B+1:=by
 obtain⟨h1,h2⟩:=h
 cases hn:O5 ps id
 ·rcases List.eq_nil_or_concat ps with rfl | ⟨qs,p,rfl⟩
  ·simp [O5] at hn
  ·have e:T0 (qs.concat p) id a=qs++[G7.mk p.Doc (p.At++[a])]:=by
    unfold T0;rw [hn];simp
   rw [e]
   simp only [List.concat_eq_append,n9,j9] at h1 h2 ⊢
   refine⟨by omega,fun q hq=>?_⟩
   rcases List.mem_append.1 hq with hq | hq
   ·have:=h2 q (by simp [hq]);omega
   ·rw [List.mem_singleton] at hq;subst hq
    have:=h2 p (by simp)
    simp only [n9,j9];omega
 ·rw [b08 hn]
  refine⟨by simp only [n9,j9];omega,fun q hq=>?_⟩
  rcases List.mem_append.1 hq with hq | hq
  ·have:=h2 q hq;omega
  ·rw [List.mem_singleton] at hq;subst hq;simp
theorem c2j {B:Nat}{o:Occ}: ∀{es:List B1},a5T B es→a5T (B+1) (a6z o es):=by
 intro es h
 have hl: ∀es:List B1,(a6z o es).length≤es.length+1:=by
  intro es
  induction es with
  | nil=>simp [a6z]
  | cons e r ih=>unfold a6z;split<;>simp only [r4]<;>omega
 refine⟨by have:=hl es;have:=h.1;omega,?_⟩
 have gen: ∀es:List B1,(∀e∈es,e.Posts.length≤B∧∀p∈e.Posts,p.At.length≤B)→∀e∈a6z o es,e.Posts.length≤B+1∧∀p∈e.Posts,p.At.length≤B+1:=by
  intro es
  induction es with
  | nil=>
   intro _ e he
   rw [a6z,List.mem_singleton] at he;subst he
   exact a9n (B:=B) (ps:=[]) ⟨Nat.zero_le _,fun p hp=>by cases hp⟩
  | cons x r ih=>
   intro hx e he
   unfold a6z at he
   split at he
   ·rcases List.mem_cons.1 he with rfl | he
    ·exact a9n (hx x (by simp))
    ·have:=hx e (by simp [he]);exact⟨by omega,fun p hp=>by have:=this.2 p hp;omega⟩
   ·rcases List.mem_cons.1 he with rfl | he
    ·have:=hx e (by simp);exact⟨by omega,fun p hp=>by have:=this.2 p hp;omega⟩
    ·exact ih (fun y hy=>hx y (by simp [hy])) e he
 exact gen es h.2
def a5n (n t:q9)(e:B1):Bool:=e.Field==n&&e.Term==t
theorem b9z (o:Occ): ∀es:List B1,a6z o es=match es.findIdx? (a5n o.1.1 o.1.2) with
  | none=>es++[⟨o.1.1,o.1.2,T0 [] o.2.1 o.2.2⟩]
  | some j=>(es[j]?).elim es fun e=>es.set j ⟨e.Field,e.Term,T0 e.Posts o.2.1 o.2.2⟩
 | []=>rfl
 | e::r=>by
  have ih:=b9z o r
  rw [a6z,List.findIdx?_cons]
  have hk:a5n o.1.1 o.1.2 e=(e.Field==o.1.1&&e.Term==o.1.2):=rfl
  rw [hk,R2,R2]
  cases (e.Field==o.1.1&&e.Term==o.1.2)
  ·simp only [i6]
   rw [ih]
   cases r.findIdx? (a5n o.1.1 o.1.2) with
   | none=>rfl
   | some j=>
    simp only [Option.map_some,List.getElem?_cons_succ]
    cases r[j]? <;>rfl
  ·rfl
theorem b79 (F:Nat)(es:List B1)(n:q9)(t:C8):G2 F es n t=some ((es.findIdx? (a5n n t.Text)).elim (-1:Int) fun j=>(j:Int)):=by
 unfold G2
 rw [b2Z (a5n n t.Text) (fun i x hx=>?_)]
 ·cases es.findIdx? (a5n n t.Text)<;>rfl
 ·rw [n5,hx,a8]
  unfold a2r
  have:(cond (x.Field==n) (some (x.Term==t.Text)) (some false):Option Bool)=some (a5n n t.Text x):=by
   unfold a5n;cases x.Field==n<;>rfl
  rw [this,a8,R2]
  cases a5n n t.Text x<;>rfl
theorem c1V (F B:Nat)(docs:List y5)(es:List B1)(n:q9)(t:C8)(id:Int)(h:a5T B es)(hB:B≤1000000):a10 F ⟨docs,es⟩ n t id=some ⟨docs,a6z ((n,t.Text),(id,t.At)) es⟩:=by
 have h1:=h.1
 have hpost: ∀ps:List G7,(ps.length≤B∧∀p∈ps,p.At.length≤B)→∃p at_,(cond (O5 ps id) (J5 32 ps [G7.mk id []]) (some ps))=some (if O5 ps id then ps++[G7.mk id []] else ps)∧(if O5 ps id then ps++[G7.mk id []] else ps).getLast?=some p∧
   J5 8 p.At [t.At]=some at_∧T0 ps id t.At=(if O5 ps id then ps++[G7.mk id []] else ps).dropLast++[G7.mk p.Doc at_]:=fun ps ⟨g1,g2⟩=>by
  cases hn:O5 ps id
  ·rcases List.eq_nil_or_concat ps with rfl | ⟨qs,p,rfl⟩
   ·simp [O5] at hn
   ·have:=g2 p (by simp)
    refine⟨p,p.At++[t.At],rfl,by simp,F1 (by simp only [j9];omega),?_⟩
    unfold T0;rw [hn];simp
  ·refine⟨G7.mk id [],[t.At],?_,by simp,F1 (by simp),?_⟩
   ·rw [i9,F1 (by simp only [j9];omega)];rfl
   ·unfold T0;rw [hn];simp
 unfold a10
 rw [b79,a8,b9z]
 cases hf:es.findIdx? (a5n n t.Text) with
 | none=>
  obtain⟨p,at_,e1,e2,e3,e4⟩:=hpost [] ⟨by simp,by simp⟩
  rw [show (Option.elim (none:Option Nat) (-1:Int) fun j=>(j:Int))= -1 from rfl]
  rw [b8 (by decide),i9,i9]
  dsimp only
  rw [F1 (by simp only [j9];omega),a8,n5,List.getElem?_append_right (Nat.le_refl _),Nat.sub_self]
  simp only [List.getElem?_cons_zero,a8]
  rw [e1,a8,e2,a8,e3,a8,←e4]
  simp
 | some j=>
  have hj:=(List.findIdx?_eq_some_iff_getElem.1 hf).1
  have hfit:=h.2 es[j] (List.getElem_mem hj)
  obtain⟨p,at_,e1,e2,e3,e4⟩:=hpost es[j].Posts hfit
  rw [show (Option.elim (some j) (-1:Int) fun j=>(j:Int))=(j:Int) from rfl]
  rw [c6 (by omega),i6,i6]
  dsimp only
  rw [a8,n5,j4 hj,a8,e1,a8,e2,a8,e3,a8,←e4]
  rfl
end Go.Fk
set_option linter.unusedVariables false
namespace Go.Fk
open Go
theorem b6b {α:Type}{lt:α→α→Bool}(tr: ∀{a b c},lt a b=true→lt b c=true→lt a c=true): ∀l:List α,(∀i,(hi:i+1<l.length)→lt l[i] l[i+1]=true)→l.Pairwise fun a b=>lt a b=true
 | [],_=>List.Pairwise.nil
 | a::l,hl=>by
  have ih':=b6b (lt:=lt) tr l (fun i hi=>by have:=hl (i+1) (by simp only [r4];omega);simpa using this)
  refine List.pairwise_cons.2 ⟨fun c hc=>?_,ih'⟩
  cases l with
  | nil=>cases hc
  | cons b l=>
   have hab:lt a b=true:=hl 0 (by simp)
   rcases List.mem_cons.1 hc with rfl | hc
   ·exact hab
   ·exact tr hab ((List.pairwise_cons.1 ih').1 c hc)
theorem a5e {d:y5}(h:a3h d=true):(a1U a4S a4r d.Fields=true∧a1U a5W a7v d.Nums=true)∧d.Fields.length≤3∧d.Nums.length≤3:=by
 unfold a3h at h
 simp only [l8,decide_eq_true_iff] at h
 exact⟨h.1,by omega,by omega⟩
theorem b0g {s:q9}(h:a2o s=true):s.length≤160:=by
 unfold a2o at h
 simp only [l8,decide_eq_true_iff] at h
 omega
theorem a8j {d:y5}(h:a3h d=true){f:O0}(hf:f∈d.Fields):D0 f.Name=true∧a2o f.Text=true:=by
 have:=(a3Q (a5e h).1.1).1 f hf
 unfold a4S at this
 simpa using this
theorem c3b {d:y5}(h:a3h d=true):a7o d:=by
 obtain⟨⟨h1,h2⟩,h3,h4⟩:=a5e h
 refine⟨by omega,by omega,fun f hf=>?_,fun a ha=>?_⟩
 ·obtain⟨k1,k2⟩:=a8j h hf
  have:=b0g k2
  have:=N3 k1
  omega
 ·have:=(a3Q h2).1 a ha
  unfold a5W at this
  simp only [l8] at this
  have:=N3 this.1
  omega
theorem b93 {d:y5}(h:a3h d=true):d.Fields.Pairwise fun f g=>f.Name≠g.Name:=by
 have h1:=b6b (lt:=a4r) (fun {a b c} k1 k2=>a6B k1 k2) d.Fields (a3Q (a5e h).1.1).2
 refine h1.imp fun {a b} k e=>?_
 unfold a4r at k
 rw [e,a1G] at k;cases k
theorem a4D {docs:List y5}(h:Z6 docs=true):docs.length≤16∧∀d∈docs,a3h d=true:=by
 unfold Z6 at h
 rw [l8,decide_eq_true_iff] at h
 exact⟨by omega,(a3Q h.1).1⟩
theorem b6s {docs:List y5}(h:Z6 docs=true):Q2 docs:=⟨by have:=(a4D h).1;omega,fun d hd=>c3b ((a4D h).2 d hd)⟩
theorem b0s {docs:List y5}(h:Z6 docs=true):a9l docs:=⟨(a3J h).2.2,fun d hd=>b93 ((a4D h).2 d hd)⟩
theorem a6p {α σ:Type}{xs:List α}{g:σ→α→σ}{I:Nat→σ→Prop}{f:Nat→σ→Option σ}(h: ∀i x s,xs[i]? =some x→I i s→f i s=some (g s x)∧I (i+1) (g s x)): ∀k i s,i+k=xs.length→I i s→U6 f k i s=some ((xs.drop i).foldl g s)
 | 0,i,s,e,_=>by rw [U6,List.drop_of_length_le (by omega)];rfl
 | k+1,i,s,e,hI=>by
  have hi:i<xs.length:=by omega
  obtain⟨h1,h2⟩:=h i xs[i] s (j4 hi) hI
  rw [U6,h1,List.drop_eq_getElem_cons hi,a8,List.foldl_cons]
  exact a6p h k (i+1) _ (by omega) h2
theorem a5Z {α σ:Type}{xs:List α}(g:σ→α→σ)(I:Nat→σ→Prop){f:Nat→σ→Option σ}(s:σ)(hI:I 0 s)(h: ∀i x s,xs[i]? =some x→I i s→f i s=some (g s x)∧I (i+1) (g s x)):U6 f xs.length 0 s=some (xs.foldl g s):=by
 have:=a6p h xs.length 0 s (by omega) hI
 rwa [List.drop_zero] at this
def a5z (es:List B1)(os:List Occ):List B1:=os.foldl (fun es o=>a6z o es) es
theorem a3r {B:Nat}: ∀(os:List Occ) {es:List B1},a5T B es→a5T (B+os.length) (a5z es os)
 | [],es,h=>h
 | o::os,es,h=>by
  have:=a3r os (c2j (o:=o) h)
  rw [r4,show B+(os.length+1)=B+1+os.length by omega]
  exact this
theorem a5T.le {B B':Nat}{es:List B1}(h:a5T B es)(hle:B≤B'):a5T B' es:=
 ⟨Nat.le_trans h.1 hle,fun e he=>⟨Nat.le_trans (h.2 e he).1 hle,fun p hp=>Nat.le_trans ((h.2 e he).2 p hp) hle⟩⟩
theorem a5Q {α:Type}(h:α→List Occ)(docs:List y5): ∀(l:List α) (es:List B1),l.foldl (fun s x=>A7.mk s.Docs (a5z s.Entries (h x))) (A7.mk docs es)=A7.mk docs (a5z es (l.flatMap h))
 | [],es=>rfl
 | x::l,es=>by
  rw [List.foldl_cons,a5Q h docs l,List.flatMap_cons]
  unfold a5z
  rw [List.foldl_append]
theorem b6H (F:Nat)(docs:List y5)(h:Q2 docs):a0G F docs=some docs:=by
 have hfew:=h.few
 unfold a0G
 rw [a4s (fun d:y5=>[d]) 1000 (fun i d acc hx hB=>?_) [] (by simp;omega)]
 ·simp
 ·have hdd:=h.doc d (l7 hx)
  have h1:=hdd.fields
  have h2:=hdd.nums
  rw [n5,hx,a8,b20 F d (by omega) (by omega),a8,F1 (by simp at hB ⊢;omega)];rfl
theorem b9o {c:u5}{id:Int}{f:O0}(h:a2o f.Text=true):(a2W c id f).length≤160:=by
 have:=a3u c f.Text
 have:=b0g h
 unfold a2W
 rw [List.length_map];omega
theorem a82 {c:u5}{d:y5}(h:a3h d=true):(a6J c d).length≤480:=by
 have h1:=W3 (g:=a2W c d.Id) (m:=160) d.Fields fun f hf=>b9o (a8j h hf).2
 have h2:=(a5e h).2.1
 have:d.Fields.length*160≤480:=by omega
 unfold a6J;omega
def c2x (c:u5)(docs:List y5):A7:=if X2 c&&Z6 docs then a1L c docs else ⟨[],[]⟩
theorem b8e (F:Nat)(c:u5)(docs:List y5)(hd:docs.length<9000000000000000000)(hc:c.Stops.length≤2000000)(hF:1000<F):a3A F c docs=some (c2x c docs):=by
 unfold a3A c2x
 rw [b0x F c hc (by omega),a8]
 cases hcs:X2 c
 ·rfl
 rw [l9,i6,b0y F docs hd,a8,a8,q8]
 cases hds:Z6 docs
 ·rfl
 have hall:=a4D hds
 rw [l9,i6,if_pos rfl,b6H F docs (b6s hds),a8]
 rw [a5Z (xs:=docs) (fun s d=>A7.mk s.Docs (a5z s.Entries (a6J c d))) (fun i s=>s.Docs=docs∧a5T (i*480) s.Entries) ⟨docs,[]⟩ ⟨rfl,by simp [a5T]⟩ (fun i d s hx ⟨e,hs⟩=>?_)]
 ·rw [a5Q,a8,a8]
  have hocc:docs.flatMap (a6J c)=a4M c docs:=rfl
  have hfin:a5T 7680 (a5z [] (a4M c docs)):=by
   have hl:=W3 (g:=a6J c) (m:=480) docs fun d hd=>a82 (hall.2 d hd)
   have hl2:=hall.1
   have:=a3r (B:=0) (a4M c docs) (es:=[]) (by simp [a5T])
   exact this.le (by unfold a4M;omega)
  rw [hocc]
  have hput:a5z [] (a4M c docs)=(Y4 (a4M c docs)).map (mkE (a4M c docs)):=b64 _
  rw [b7u (t:=(a1L c docs).Entries) (c3D F) (fun a b=>by rw [b9q];rfl) b5J c47 c44 (by rw [hput];exact b23 _) (b1B c docs) (fun x=>by rw [hput];exact b6V (b0s hds) x) (by have:=hfin.1;show (a5z [] (a4M c docs)).length≤_;omega),a8]
  rfl
 ·have hdi:=hall.2 d (l7 hx)
  have hi:=(i4.1 hx).1
  have h16:=hall.1
  have h3:=(a5e hdi).2.1
  have hol:=a82 (c:=c) hdi
  refine⟨?_,e,(a3r _ hs).le (by omega)⟩
  obtain⟨sd,se⟩:=s
  dsimp only at e hs ⊢
  subst e
  rw [n5,hx,a8]
  rw [a5Z (xs:=d.Fields) (fun s f=>A7.mk s.Docs (a5z s.Entries (a2W c d.Id f))) (fun j s=>s.Docs=sd∧a5T (i*480+j*160) s.Entries) ⟨sd,se⟩ (by rw [Nat.zero_mul,Nat.add_zero];exact⟨rfl,hs⟩) (fun j f s hf ⟨e,hs⟩=>?_)]
  ·rw [a5Q,a8,a8];rfl
  ·have hft:=(a8j hdi (l7 hf)).2
   have htl:=b0g hft
   have hj:=(i4.1 hf).1
   have hfl:=b9o (c:=c) (id:=d.Id) hft
   refine⟨?_,e,(a3r _ hs).le (by omega)⟩
   obtain⟨sd',se'⟩:=s
   dsimp only at e hs ⊢
   subst e
   rw [n5,hf,a8,a6L F c f.Text (by omega) (by omega) (by omega),hcs,hft,q8,if_pos rfl,a8]
   have htm:=a3u c f.Text
   rw [a5Z (xs:=G3 c f.Text) (fun s x=>A7.mk s.Docs (a5z s.Entries [((f.Name,x.Text),(d.Id,x.At))])) (fun k s=>s.Docs=sd'∧a5T (i*480+j*160+k) s.Entries) ⟨sd',se'⟩ (by rw [Nat.add_zero];exact⟨rfl,hs⟩) (fun k x s hxk ⟨e,hs⟩=>?_)]
   ·rw [a5Q (fun x:C8=>[((f.Name,x.Text),(d.Id,x.At))]),a8,a8]
    congr 2
    unfold a2W
    rw [List.map_eq_flatMap]
   ·have hk:=(i4.1 hxk).1
    refine⟨?_,e,by have h1:=a3r [((f.Name,x.Text),(d.Id,x.At))] hs;rw [j9,Nat.add_assoc] at h1;exact h1⟩
    obtain⟨sd'',se''⟩:=s
    dsimp only at e hs ⊢
    subst e
    rw [n5,hxk,a8,c1V F _ sd'' se'' f.Name x d.Id hs (by omega),a8]
    rfl
end Go.Fk
set_option linter.unusedVariables false
namespace Go.Fk
open Go
def eqL {α:Type}(q:α→α→Bool)(xs ys:List α):Bool:=decide ((xs.length:Int)=ys.length)&&(xs.zip ys).all fun p=>q p.1 p.2
theorem b2o {α:Type}{q:α→α→Bool}(h: ∀a b,q a b=true↔a=b): ∀xs ys:List α,eqL q xs ys=true↔xs=ys
 | [],[]=>by simp [eqL]
 | [],y::ys=>by simp [eqL];omega
 | x::xs,[]=>by simp [eqL];omega
 | x::xs,y::ys=>by
  have ih:=b2o h xs ys
  unfold eqL at ih ⊢
  rw [l8,decide_eq_true_iff] at ih ⊢
  rw [List.zip_cons_cons,List.all_cons,l8,h,List.cons.injEq,←ih]
  simp only [r4]
  constructor
  ·rintro⟨h1,h2,h3⟩;exact⟨h2,by omega,h3⟩
  ·rintro⟨h1,h2,h3⟩;exact⟨by omega,h1,h3⟩
theorem b59 {α:Type}{xs ys:List α}{i:Nat}{p:α×α}(h:(xs.zip ys)[i]? =some p):xs[i]? =some p.1∧ys[i]? =some p.2:=by
 have:=List.getElem?_zip_eq_some.1 h
 exact this
theorem b5q {α:Type}(q:α→α→Bool){xs ys:List α}{f:Nat→Unit→Option (Unit⊕Bool)}(h: ∀i a b,xs[i]? =some a→ys[i]? =some b→f i ()=some (if q a b then .inl () else .inr false)):
  (cond (!((xs.length:Int)==(ys.length:Int))) (some false) (Option.bind ((Option.bind (C7 f xs.length 0 ()) fun r=>r.elim (fun _=>some (.inl ())) (fun t=>some (.inr t))):Option (Unit⊕Bool)) fun o=>o.elim (fun _=>some true) fun t=>some t))=some (eqL q xs ys):=by
 by_cases e:(xs.length:Int)=ys.length
 ·have hz:(xs.zip ys).length=xs.length:=by rw [List.length_zip];omega
  have:=a0k (p:=fun p:α×α=>q p.1 p.2) (xs:=xs.zip ys) (f:=f) (fun i p hp=>h i p.1 p.2 (b59 hp).1 (b59 hp).2)
  have:=this xs.length 0 (by omega)
  rw [List.drop_zero] at this
  rw [this,beq_iff_eq.2 e]
  unfold eqL
  rw [b8 e,q8]
  cases (xs.zip ys).all fun p=>q p.1 p.2<;>rfl
 ·rw [beq_eq_false_iff_ne.2 e]
  unfold eqL
  rw [c6 e];rfl
theorem b0u {α:Type}(q:α→α→Bool){xs ys:List α}{f:Int→Option (Int⊕(Unit⊕Bool))}(F:Nat)(hF:xs.length<F)(h: ∀(i:Nat) a b,i<xs.length→xs[i]? =some a→ys[i]? =some b→f (i:Int)=some (if q a b then .inl ((i+1:Nat):Int) else .inr (.inr false)))(h0:f (xs.length:Int)=some (.inr (.inl ()))):
  (cond (!((xs.length:Int)==(ys.length:Int))) (some false) (Option.bind ((Option.bind (v8 f F (0:Int)) fun r=>r.elim (fun _=>some (.inl ())) (fun t=>some (.inr t))):Option (Unit⊕Bool)) fun o=>o.elim (fun _=>some true) fun t=>some t))=some (eqL q xs ys):=by
 by_cases e:(xs.length:Int)=ys.length
 ·have hz:(xs.zip ys).length=xs.length:=by rw [List.length_zip];omega
  have:=a07 (fun p:α×α=>q p.1 p.2) (xs:=xs.zip ys) (f:=f) F (by omega) (fun i p hp=>h i p.1 p.2 (by have:=(i4.1 hp).1;omega) (b59 hp).1 (b59 hp).2) (by rw [hz];exact h0)
  rw [this,beq_iff_eq.2 e]
  unfold eqL
  rw [b8 e,q8]
  cases (xs.zip ys).all fun p=>q p.1 p.2<;>rfl
 ·rw [beq_eq_false_iff_ne.2 e]
  unfold eqL
  rw [c6 e];rfl
def eqI (a b:Int):Bool:=a==b
def eqP (a b:G7):Bool:=a.Doc==b.Doc&&eqL eqI a.At b.At
def eqE (a b:B1):Bool:=a.Field==b.Field&&(a.Term==b.Term&&eqL eqP a.Posts b.Posts)
theorem c3g (a b:Int):eqI a b=true↔a=b:=by simp [eqI]
theorem c3h (a b:G7):eqP a b=true↔a=b:=by
 unfold eqP
 rw [l8,b2o c3g]
 cases a;cases b;simp
theorem c3c (a b:B1):eqE a b=true↔a=b:=by
 unfold eqE
 rw [l8,l8,b2o c3h]
 cases a;cases b;simp
theorem c0j (F:Nat)(a b:List Int):X8 F a b=some (eqL eqI a b):=by
 unfold X8
 refine b5q eqI fun i x y hx hy=>?_
 rw [n5,hx,a8,n5,hy,a8,R2]
 unfold eqI
 cases x==y<;>rfl
theorem c0n (F:Nat)(a b:G7):a1n F a b=some (eqP a b):=by
 unfold a1n eqP
 rw [c0j]
 cases a.Doc==b.Doc<;>rfl
theorem b8c (F:Nat)(a b:List G7):G6 F a b=some (eqL eqP a b):=by
 unfold G6
 refine b5q eqP fun i x y hx hy=>?_
 rw [n5,hx,a8,n5,hy,a8,c0n,a8,R2]
 cases eqP x y<;>rfl
theorem b77 (F:Nat)(a b:B1):a0I F a b=some (eqE a b):=by
 unfold a0I eqE
 rw [b8c]
 cases a.Field==b.Field
 ·rfl
 ·cases a.Term==b.Term<;>rfl
theorem b5A (F:Nat)(a b:List B1):G1 F a b=some (eqL eqE a b):=by
 unfold G1
 refine b5q eqE fun i x y hx hy=>?_
 rw [n5,hx,a8,n5,hy,a8,b77,a8,R2]
 cases eqE x y<;>rfl
theorem c0M (F:Nat)(a b:List Int)(hF:a.length<F)(hl:a.length<9000000000000000000):T9 F a b=some (eqL eqI a b):=by
 unfold T9
 refine b0u eqI F hF (fun i x y hi hx hy=>?_) ?_
 ·rw [b8 (by omega),i9,n5,hx,a8,n5,hy,a8,y2 (by omega),R2]
  unfold eqI
  cases x==y<;>rfl
 ·rw [c6 (by omega)];rfl
theorem b8M (F:Nat)(a b:B1)(h:a.Posts.length≤10000∧∀p∈a.Posts,p.At.length≤10000)(hF:10000<F):Y3 F a b=some (eqE a b):=by
 unfold Y3 eqE
 have key:=b0u eqP (xs:=a.Posts) (ys:=b.Posts) F (by omega) (f:=fun (s46:Int)=>(cond (decide (s46<(a.Posts.length:Int))) (Option.bind ((Option.bind (u0 a.Posts s46) fun x67=>(Option.bind (u0 b.Posts s46) fun x81=>(cond (!(x67.Doc==x81.Doc)) (some true) (Option.bind (u0 a.Posts s46) fun x101=>(Option.bind (u0 b.Posts s46) fun x115=>(Option.bind (T9 F x101.At x115.At) fun r129=>(some (!r129)))))))):Option Bool) fun o60=>(cond o60 (some (.inr (.inr false))) (some (.inl (A1 (s46+(1:Int))))))) (some (.inr (.inl ()))))) (fun i x y hi hx hy=>?_) ?_
 ·cases hf:a.Field==b.Field
  ·rfl
  cases ht:a.Term==b.Term
  ·rfl
  rw [q8,q8,←key]
  simp only [l9,i6]
  rfl
 ·have hp:=h.2 x (l7 hx)
  rw [b8 (by omega),i9,n5,hx,a8,n5,hy,a8,y2 (by omega),a8,a8,c0M F _ _ (by omega) (by omega),a8,R2]
  unfold eqP
  cases x.Doc==y.Doc
  ·rfl
  ·cases eqL eqI x.At y.At<;>rfl
 ·rw [c6 (by omega)];rfl
theorem a96 {c:u5}{docs:List y5}(h:Z6 docs=true):a5T 7680 (a1L c docs).Entries:=by
 have hall:=a4D h
 have hput:a5z [] (a4M c docs)=(Y4 (a4M c docs)).map (mkE (a4M c docs)):=b64 _
 have hfin:a5T 7680 ((Y4 (a4M c docs)).map (mkE (a4M c docs))):=by
  have hl:=W3 (g:=a6J c) (m:=480) docs fun d hd=>a82 (hall.2 d hd)
  have hl2:=hall.1
  have:=a3r (B:=0) (a4M c docs) (es:=[]) (by simp [a5T])
  rw [hput] at this
  exact this.le (by unfold a4M;omega)
 have hm:=b6V (c:=c) (b0s h)
 have n1:(a1L c docs).Entries.Nodup:=(b1B c docs).imp fun {a b} k e=>by subst e;rw [b5J] at k;cases k
 have n2:((Y4 (a4M c docs)).map (mkE (a4M c docs))).Nodup:=(b23 (a4M c docs)).imp fun {a b} k e=>by subst e;rw [b5J] at k;rcases k with k | k<;>cases k
 have hp:=(List.perm_ext_iff_of_nodup n1 n2).2 hm
 exact⟨by rw [hp.length_eq];exact hfin.1,fun e he=>hfin.2 e ((hm e).1 he)⟩
def N0 (c:u5)(s:A7):Bool:=X2 c&&Z6 s.Docs&&eqL eqE (a1L c s.Docs).Entries s.Entries
theorem a8p (F:Nat)(c:u5)(s:A7)(hd:s.Docs.length<9000000000000000000)(hc:c.Stops.length≤2000000)(hF:1000<F):V8 F c s=some (N0 c s):=by
 unfold V8 N0
 rw [b0x F c hc (by omega),a8,b8e F c s.Docs hd hc hF]
 unfold c2x
 cases hcs:X2 c
 ·rfl
 rw [l9,i6,b0y F s.Docs hd,a8,a8,q8]
 cases hds:Z6 s.Docs
 ·rfl
 rw [l9,i6,if_pos rfl,a8,b5A];rfl
theorem c2G (F B:Nat)(c:u5)(s:A7)(hdl:s.Docs.length≤B)(hdb: ∀d∈s.Docs,b7V B d)(hc:a0B B c)(hB:B≤2000000)(hF:B+200000<F):a0Z F c s=some (N0 c s):=by
 unfold a0Z N0
 rw [b44 F B c hc hB (by omega),a8]
 cases hcs:X2 c
 ·rfl
 rw [l9,i6,b8G F B s.Docs hdl hdb hB (by omega),a8,a8,q8]
 cases hds:Z6 s.Docs
 ·rfl
 have hfit:=a96 (c:=c) hds
 rw [l9,i6,b7E F c s.Docs hcs (b6s hds) (by omega),a8,q8]
 have hl:=hfit.1
 refine b0u eqE F (by omega) (fun i x y hi hx hy=>?_) ?_
 ·have hp:=hfit.2 x (l7 hx)
  rw [b8 (by omega),i9,n5,hx,a8,n5,hy,a8,y2 (by omega),b8M F x y ⟨by omega,fun p hpp=>by have:=hp.2 p hpp;omega⟩ (by omega),a8,R2]
  cases eqE x y<;>rfl
 ·rw [c6 (by omega)];rfl
theorem a99 (F B:Nat)(c:u5)(s:A7)(hd:Q2 s.Docs)(hc:a0B B c)(hB:B≤1000000)(hF:B+202000<F):a0Z F c s=some (N0 c s):=
 c2G F (B+1000) c s (by have:=hd.few;omega) (fun d hm=>by
  have h:=hd.doc d hm
  exact⟨by have:=h.fields;omega,by have:=h.nums;omega,fun f hf=>by have:=h.field f hf;omega,fun a ha=>by have:=h.num a ha;omega⟩)
  ⟨⟨by have:=hc.stops.1;omega,fun x hx=>by have:=hc.stops.2 x hx;omega⟩,by have:=hc.syns.1;omega,fun r hr=>by
   have:=hc.syns.2 r hr
   exact⟨by omega,by omega,fun x hx=>by have:=this.2.2 x hx;omega⟩⟩ (by omega) (by omega)
theorem a3V {c:u5}{s:A7}(h:N0 c s=true):X2 c=true∧Z6 s.Docs=true∧s=a1L c s.Docs:=by
 unfold N0 at h
 rw [l8,l8,b2o c3c] at h
 refine⟨h.1.1,h.1.2,?_⟩
 have:s.Entries=(a1L c s.Docs).Entries:=h.2.symm
 cases s
 simp only at this
 subst this
 rfl
end Go.Fk
