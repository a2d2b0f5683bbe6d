import Derived.Test.YtnloenhmkdpgeaaGreatDoorLawBase
/-
  The words of a text: the program and the reference find the same. Of no program.
-/
namespace Go.Fk
open Go
def a3A (b:UInt8):UInt8:=if (65:UInt8)≤b∧b≤(90:UInt8) then b+32 else b
def u2 (b:UInt8):Bool:=a1E (a3A b)
theorem a8h (F:Nat)(b:UInt8):a1M F b=some (a3A b):=by
 unfold a1M a3A
 by_cases h1:(65:UInt8)≤b<;>by_cases h2:b≤(90:UInt8)<;>simp [h1,h2]
 exact b0g (Q:=fun b=>b+97-65=b+32) (by decide +kernel) b
theorem b6M (b:UInt8):(!(a8a b==0))=u2 b:=b0g (Q:=fun b=>(!(a8a b==0))=u2 b) (by decide +kernel) b
theorem c1O (b:UInt8):u2 b=true→a8a b=a3A b:=b0g (Q:=fun b=>u2 b=true→a8a b=a3A b) (by decide +kernel) b
def Q3 (s:r4)(o k:Nat):List a0g:=
 match s with
 | []=>[]
 | b::r=>
  if u2 b then ⟨(((b::r).takeWhile u2).map a3A).take 12,(k:Int),(o:Int),((o+((b::r).takeWhile u2).length:Nat):Int)⟩::Q3 ((b::r).drop ((b::r).takeWhile u2).length) (o+((b::r).takeWhile u2).length) (k+1)
  else Q3 r (o+1) k
termination_by s.length
decreasing_by
 ·rename_i h
  simp only [List.length_drop,List.takeWhile_cons,h,if_true,s6];omega
 ·simp
def a1c (s:r4):List a0g:=Q3 s 0 0
theorem Y3 (o k:Nat):Q3 [] o k=[]:=by rw [Q3]
theorem a8X {s:r4}{o k p:Nat}{b:UInt8}(h:s[p]? =some b)(hb:u2 b=false):Q3 (s.drop p) o k=Q3 (s.drop (p+1)) (o+1) k:=by
 have hp:=(i4.1 h)
 obtain⟨hlt,rfl⟩:=hp
 rw [List.drop_eq_getElem_cons hlt,Q3,if_neg (by rw [hb];simp)]
theorem b2l {s:r4}{o k p:Nat}{b:UInt8}(h:s[p]? =some b)(hb:u2 b=true):Q3 (s.drop p) o k=
  ⟨(((s.drop p).takeWhile u2).map a3A).take 12,(k:Int),(o:Int),((o+((s.drop p).takeWhile u2).length:Nat):Int)⟩::Q3 (s.drop (p+((s.drop p).takeWhile u2).length)) (o+((s.drop p).takeWhile u2).length) (k+1):=by
 have hp:=(i4.1 h)
 obtain⟨hlt,rfl⟩:=hp
 rw [←List.drop_drop]
 generalize hd:s.drop p=t
 rw [List.drop_eq_getElem_cons hlt] at hd
 subst hd
 rw [Q3,if_pos hb]
theorem b3b {s:r4}{p:Nat}:p+((s.drop p).takeWhile u2).length≤s.length∨s.length<p:=by
 have h1:=List.takeWhile_prefix u2 (l:=s.drop p)
 have h2:=h1.length_le
 rw [List.length_drop] at h2
 omega
theorem c2b {s:r4}{p j:Nat}(hj:j<((s.drop p).takeWhile u2).length): ∃b,s[p+j]? =some b∧u2 b=true∧((s.drop p).takeWhile u2)[j]? =some b:=by
 have h1:((s.drop p).takeWhile u2)[j]? =some ((s.drop p).takeWhile u2)[j]:=j8 hj
 refine⟨_,?_,?_,h1⟩
 ·have h2:=List.takeWhile_prefix u2 (l:=s.drop p)
  have h3:=h2.getElem hj
  rw [←List.getElem?_drop,j8 (by have:=h2.length_le;omega),←h3]
 ·exact List.all_eq_true.1 List.all_takeWhile _ (List.getElem_mem hj)
theorem b3a {s:r4}{p:Nat}:s[p+((s.drop p).takeWhile u2).length]? =none∨∃b,s[p+((s.drop p).takeWhile u2).length]? =some b∧u2 b=false:=by
 cases e:s[p+((s.drop p).takeWhile u2).length]? with
 | none=>exact .inl rfl
 | some b=>
  refine .inr ⟨b,rfl,?_⟩
  rw [←List.getElem?_drop] at e
  generalize s.drop p=t at e
  induction t with
  | nil=>simp at e
  | cons x r ih=>
   by_cases hx:u2 x=true
   ·simp only [List.takeWhile_cons,hx,if_true,s6,List.getElem?_cons_succ] at e
    exact ih e
   ·simp only [List.takeWhile_cons,hx] at e
    simp at e
    subst e
    simpa using hx
theorem c07 {xs:List UInt8}{n:Nat}{x:UInt8}(h:xs.length<n):xs.take n++[x]=(xs++[x]).take n:=by
 rw [List.take_of_length_le (by omega),List.take_of_length_le (by simp;omega)]
theorem c05 {xs:List UInt8}{n:Nat}{x:UInt8}(h:n≤xs.length):(xs++[x]).take n=xs.take n:=by
 rw [List.take_append_of_le_length h]
theorem b1I {f:UInt8→UInt8}{R:List UInt8}{j:Nat}{b:UInt8}(h:R[j]? =some b):(R.take (j+1)).map f=(R.take j).map f++[f b]:=by
 obtain⟨hlt,rfl⟩:=i4.1 h
 rw [List.take_succ_eq_append_getElem hlt,List.map_append];rfl
theorem a9g {σ τ:Type}{f:σ→Option (σ⊕τ)}{t:τ}(Inv:Nat→σ→Prop)(n:Nat)
  (step: ∀i s,i<n→Inv i s→(∃s',f s=some (.inl s')∧Inv (i+1) s')∨f s=some (.inr t))
  (fin: ∀s,Inv n s→f s=some (.inr t))(k i:Nat)(s:σ)(F:Nat)(he:i+k=n)(hF:k<F)(hi:Inv i s):y2 f F s=some t:=by
 obtain⟨t',h1,rfl⟩:=I7 (Post:=fun t'=>t'=t) Inv n (fun i s hi hI=>(step i s hi hI).imp id fun h=>⟨t,h,rfl⟩) (fun s hI=>⟨t,fin s hI,rfl⟩) k i s F he hF hi
 exact h1
theorem c1V (F:Nat)(s:r4)(p:Nat)(hp:p≤s.length)(hF:s.length+1<F)
  {f:Int×List UInt8→Option ((Int×List UInt8)⊕(Int×List UInt8))}
  (h1: ∀(q:Nat) (t:List UInt8) b,s[q]? =some b→u2 b=true→t.length<12→f ((q:Int),t)=some (.inl (((q+1:Nat):Int),t++[a3A b])))
  (h1': ∀(q:Nat) (t:List UInt8) b,s[q]? =some b→u2 b=true→¬t.length<12→f ((q:Int),t)=some (.inl (((q+1:Nat):Int),t)))
  (h2: ∀(q:Nat) (t:List UInt8),q≤s.length→(s[q]? =none∨∃b,s[q]? =some b∧u2 b=false)→f ((q:Int),t)=some (.inr ((q:Int),t))):
  y2 f F ((p:Int),[])=some (((p+((s.drop p).takeWhile u2).length:Nat):Int),(((s.drop p).takeWhile u2).map a3A).take 12):=by
 have hrl:=b3b (s:=s) (p:=p)
 obtain⟨t,ht,e⟩:=I7 (f:=f) (Post:=fun t=>t=(((p+((s.drop p).takeWhile u2).length:Nat):Int),(((s.drop p).takeWhile u2).map a3A).take 12))
  (fun j st=>st=(((p+j:Nat):Int),((((s.drop p).takeWhile u2).take j).map a3A).take 12)) ((s.drop p).takeWhile u2).length
  (fun j st hj hi=>by
   subst hi
   obtain⟨b,hb,hw,hr⟩:=c2b hj
   refine .inl ⟨_,?_,rfl⟩
   by_cases hl:(((((s.drop p).takeWhile u2).take j).map a3A).take 12).length<12
   ·rw [h1 _ _ b hb hw hl]
    have:((((s.drop p).takeWhile u2).take j).map a3A).length<12:=by rw [List.length_take] at hl;omega
    rw [c07 this,←b1I hr];rfl
   ·rw [h1' _ _ b hb hw hl]
    have:12≤((((s.drop p).takeWhile u2).take j).map a3A).length:=by rw [List.length_take] at hl;omega
    rw [b1I (f:=a3A) hr,c05 this];rfl)
  (fun st hi=>by
   subst hi
   refine⟨_,h2 _ _ (by omega) b3a,?_⟩
   rw [List.take_of_length_le (Nat.le_refl _)]) ((s.drop p).takeWhile u2).length 0 ((p:Int),[]) F (by omega) (by omega) (by simp)
 rw [ht,e]
theorem c2u (F:Nat)(s:r4)(p:Nat)(hp:p≤s.length)(hs:s.length≤2000000)(hF:s.length+1<F)
  {f:Int×List UInt8→Option ((Int×List UInt8)⊕(Int×List UInt8))}
  (h1: ∀(q:Nat) (t:List UInt8) b,s[q]? =some b→u2 b=true→t.length≤2000000→f ((q:Int),t)=some (.inl (((q+1:Nat):Int),t++[a3A b])))
  (h2: ∀(q:Nat) (t:List UInt8),q≤s.length→(s[q]? =none∨∃b,s[q]? =some b∧u2 b=false)→f ((q:Int),t)=some (.inr ((q:Int),t))):
  y2 f F ((p:Int),[])=some (((p+((s.drop p).takeWhile u2).length:Nat):Int),((s.drop p).takeWhile u2).map a3A):=by
 have hrl:=b3b (s:=s) (p:=p)
 obtain⟨t,ht,e⟩:=I7 (f:=f) (Post:=fun t=>t=(((p+((s.drop p).takeWhile u2).length:Nat):Int),((s.drop p).takeWhile u2).map a3A))
  (fun j st=>st=(((p+j:Nat):Int),(((s.drop p).takeWhile u2).take j).map a3A)) ((s.drop p).takeWhile u2).length
  (fun j st hj hi=>by
   subst hi
   obtain⟨b,hb,hw,hr⟩:=c2b hj
   refine .inl ⟨_,?_,rfl⟩
   rw [h1 _ _ b hb hw (by rw [List.length_map,List.length_take];omega),←b1I hr];rfl)
  (fun st hi=>by
   subst hi
   refine⟨_,h2 _ _ (by omega) b3a,?_⟩
   rw [List.take_of_length_le (Nat.le_refl _)]) ((s.drop p).takeWhile u2).length 0 ((p:Int),[]) F (by omega) (by omega) (by simp)
 rw [ht,e]
theorem a9X (F:Nat)(s:r4)(hs:s.length≤2000000)(hF:s.length+1<F):a0j F s=some (if a2n s then a1c s else []):=by
 unfold a0j
 rw [b1o,a8]
 cases ht:a2n s
 ·rfl
 simp only [l7,i6,if_true]
 have hg: ∀(q:Nat) b,s[q]? =some b→v8 s (q:Int)=some b:=fun q b h=>by rw [n8];exact h
 have hlt: ∀(q:Nat) b,s[q]? =some b→decide ((q:Int)<(s.length:Int))=true:=fun q b h=>b8 (by have:=(i4.1 h).1;omega)
 rw [a9g (t:=a1c s) (fun i st=>∃(out:List a0g) (o:Nat),st=(out,(o:Int))∧i≤o∧o≤s.length∧out.length≤o∧out++Q3 (s.drop o) o out.length=a1c s) s.length
  (fun i st hi ⟨out,o,e1,e2,e3,e4,e5⟩=>?_) (fun st ⟨out,o,e1,e2,e3,e4,e5⟩=>?_) s.length 0 (([]:List a0g),(0:Int)) F (by omega) (by omega) ⟨[],0,rfl,by omega,by omega,by simp,by simp [a1c]⟩]
 ·rfl
 ·subst e1
  rcases Nat.lt_or_ge o s.length with hol | hol
  ·have hb:s[o]? =some s[o]:=j8 hol
   rw [hlt o _ hb,j4,hg o _ hb,a8,a8h,a8,a5O,a8]
   cases hw:u2 s[o]
   ·rw [show a1E (a3A s[o])=false from hw]
    refine .inl ⟨(out,((o+1:Nat):Int)),?_,out,o+1,rfl,by omega,by omega,by omega,?_⟩
    ·rw [y5 (by omega)];rfl
    ·rw [←e5,a8X hb hw]
   ·rw [show a1E (a3A s[o])=true from hw]
    have hrl:=b3b (s:=s) (p:=o)
    have hpos:0<((s.drop o).takeWhile u2).length:=by rw [List.drop_eq_getElem_cons hol,List.takeWhile_cons,if_pos hw];simp
    refine .inl ⟨(out++[⟨(((s.drop o).takeWhile u2).map a3A).take 12,(out.length:Int),(o:Int),((o+((s.drop o).takeWhile u2).length:Nat):Int)⟩],((o+((s.drop o).takeWhile u2).length:Nat):Int)),?_,_,_,rfl,by omega,by omega,by rw [o0,l8];omega,?_⟩
    ·simp only [l7,i6]
     rw [c1V F s o e3 hF ?_ ?_ ?_,a8,a8,H4 (by simp;omega)]
     ·rfl
     ·intro q t b hb hw hl
      rw [hlt q b hb,j4,hg q b hb,a8,a8h,a8,a5O,a8,a8,show a1E (a3A b)=true from hw,j4,b8 (show (t.length:Int)<12 by omega),j4,a8,a8h,a8,H4 (by simp;omega),a8,y5 (by have:=(i4.1 hb).1;omega)]
     ·intro q t b hb hw hl
      rw [hlt q b hb,j4,hg q b hb,a8,a8h,a8,a5O,a8,a8,show a1E (a3A b)=true from hw,j4,c6 (show ¬(t.length:Int)<12 by omega),i6,y5 (by have:=(i4.1 hb).1;omega)]
     ·intro q t hq hor
      rcases hor with hn | ⟨b,hb,hw⟩
      ·rw [c6 (show ¬(q:Int)<s.length by have:=List.getElem?_eq_none_iff.1 hn;omega)];rfl
      ·rw [hlt q b hb,j4,hg q b hb,a8,a8h,a8,a5O,a8,a8,show a1E (a3A b)=false from hw];rfl
    ·rw [List.append_assoc,←e5,b2l hb hw,o0,l8];rfl
  ·refine .inr ?_
   rw [c6 (by omega)]
   show some (Sum.inr out)=_
   rw [←e5,List.drop_of_length_le hol,Y3,List.append_nil]
 ·subst e1
  have:o=s.length:=by omega
  subst this
  rw [c6 (by omega)]
  show some (Sum.inr out)=_
  rw [←e5,List.drop_of_length_le (Nat.le_refl _),Y3,List.append_nil]
theorem b8N (F:Nat)(s:r4)(hs:s.length≤2000000)(hF:s.length+2<F):a2Q F s=some (a1c s):=by
 unfold a2Q
 have hg: ∀(q:Nat) b,s[q]? =some b→v8 s (q:Int)=some b:=fun q b h=>by rw [n8];exact h
 have hlt: ∀(q:Nat) b,s[q]? =some b→decide ((q:Int)<(s.length:Int))=true:=fun q b h=>b8 (by have:=(i4.1 h).1;omega)
 have hrun: ∀(o:Nat),o≤s.length→_:=fun o ho=>c2u F s o ho hs (by omega) (f:=fun (s55:Int×(List UInt8))=>(Option.bind ((cond (decide (s55.1<(s.length:Int))) (Option.bind (v8 s s55.1) fun x81=>(Option.bind (V7 F x81) fun r84=>(some (!(r84==(0:UInt8)))))) (some false)):Option Bool) fun o72=>(cond o72 (Option.bind (v8 s s55.1) fun x94=>(Option.bind (V7 F x94) fun r97=>(Option.bind (O2 1 s55.2 ([r97]:List UInt8)) fun x112=>(some (.inl ((z8 (s55.1+(1:Int))),x112)))))) (some (.inr (s55.1,s55.2))))))
  (fun q t b hb hw hl=>by
   show Option.bind _ _=_
   rw [hlt q b hb,j4,hg q b hb,a8,a89,a8,a8,show (!(a8a b==0))=true by rw [b6M];exact hw,j4,a8,a89,a8,H4 (by simp;omega),a8,y5 (by have:=(i4.1 hb).1;omega),c1O b hw])
  (fun q t hq hor=>by
   show Option.bind _ _=_
   rcases hor with hn | ⟨b,hb,hw⟩
   ·rw [c6 (show ¬(q:Int)<s.length by have:=List.getElem?_eq_none_iff.1 hn;omega)];rfl
   ·rw [hlt q b hb,j4,hg q b hb,a8,a89,a8,a8,show (!(a8a b==0))=false by rw [b6M];exact hw];rfl)
 rw [a9g (t:=a1c s) (fun i st=>∃(out:List a0g) (o:Nat),st=(out,(o:Int))∧i≤o∧o≤s.length+1∧out.length≤o∧out++Q3 (s.drop o) o out.length=a1c s) s.length
  (fun i st hi ⟨out,o,e1,e2,e3,e4,e5⟩=>?_) (fun st ⟨out,o,e1,e2,e3,e4,e5⟩=>?_) s.length 0 (([]:List a0g),(0:Int)) F (by omega) (by omega) ⟨[],0,rfl,by omega,by omega,by simp,by simp [a1c]⟩]
 ·rfl
 ·subst e1
  rcases Nat.lt_or_ge o s.length with hol | hol
  ·have hb:s[o]? =some s[o]:=j8 hol
   have hrl:=b3b (s:=s) (p:=o)
   rw [hlt o _ hb,j4,hrun o (by omega),a8,a8]
   simp only
   have hcut:(Option.bind ((cond (decide ((12:Int)<((((s.drop o).takeWhile u2).map a3A).length:Int))) (Option.bind (a1G (((s.drop o).takeWhile u2).map a3A) 0 (12:Int)) fun x139=>(some x139)) (some (((s.drop o).takeWhile u2).map a3A))):Option (List UInt8)) fun x=>some x)=some ((((s.drop o).takeWhile u2).map a3A).take 12):=by
    by_cases hl:12<(((s.drop o).takeWhile u2).map a3A).length
    ·rw [b8 (by omega),j4,a1G,if_pos (by omega)];rfl
    ·rw [c6 (by omega),i6,List.take_of_length_le (by omega)];rfl
   rw [show ∀o:Option (List UInt8),(Option.bind o fun x=>some x)=o from fun o=>by cases o<;>rfl] at hcut
   rw [hcut,a8]
   cases hw:u2 s[o]
   ·have hnil:(s.drop o).takeWhile u2=[]:=by rw [List.drop_eq_getElem_cons hol,List.takeWhile_cons,hw];simp
    rw [hnil]
    refine .inl ⟨(out,((o+1:Nat):Int)),?_,out,o+1,rfl,by omega,by omega,by omega,?_⟩
    ·simp only [List.map_nil,List.take_nil,List.length_nil,Nat.add_zero]
     rw [y5 (by omega)];rfl
    ·rw [←e5,a8X hb hw]
   ·have hpos:0<((s.drop o).takeWhile u2).length:=by rw [List.drop_eq_getElem_cons hol,List.takeWhile_cons,if_pos hw];simp
    rw [b8 (by rw [List.length_take,List.length_map];omega),j4,H4 (by simp;omega),a8,y5 (by omega)]
    refine .inl ⟨_,rfl,_,_,rfl,by omega,by omega,by rw [o0,l8];omega,?_⟩
    have e9:Q3 (s.drop (o+((s.drop o).takeWhile u2).length+1)) (o+((s.drop o).takeWhile u2).length+1) (out.length+1)=Q3 (s.drop (o+((s.drop o).takeWhile u2).length)) (o+((s.drop o).takeWhile u2).length) (out.length+1):=by
     rcases b3a (s:=s) (p:=o) with hn | ⟨b,hb2,hw2⟩
     ·have:=List.getElem?_eq_none_iff.1 hn
      rw [List.drop_of_length_le (i:=o+((s.drop o).takeWhile u2).length+1) (by omega),List.drop_of_length_le (i:=o+((s.drop o).takeWhile u2).length) (by omega),Y3,Y3]
     ·exact(a8X hb2 hw2).symm
    rw [List.append_assoc,←e5,b2l hb hw,o0,l8,e9];rfl
  ·refine .inr ?_
   rw [c6 (by omega)]
   show some (Sum.inr out)=_
   rw [←e5,List.drop_of_length_le hol,Y3,List.append_nil]
 ·subst e1
  rw [c6 (by omega)]
  show some (Sum.inr out)=_
  rw [←e5,List.drop_of_length_le (by omega),Y3,List.append_nil]
end Go.Fk
set_option linter.unusedVariables false
namespace Go.Fk
open Go
def a9Q:List r4:=[[105,110,103],[101,100],[101,115],[108,121],[115]]
def b1e (s e:r4):Bool:=decide (e.length+3≤s.length)&&(s.drop (s.length-e.length)==e)
def b5B (s e:r4):r4:=s.take (s.length-e.length)
def a0A (s:r4):r4:=(a9Q.find? (b1e s)).elim s (b5B s)
theorem b3p {e:r4}(h:e∈a9Q):1≤e.length∧e.length≤3:=by
 simp only [a9Q,List.mem_cons,List.not_mem_nil,or_false] at h
 rcases h with rfl | rfl | rfl | rfl | rfl<;>decide
theorem a58 (s:r4):(a9Q.find? (b1e s)=none∧a0A s=s)∨∃e,a9Q.find? (b1e s)=some e∧a0A s=b5B s e∧1≤e.length∧e.length+3≤s.length:=by
 unfold a0A
 cases h:a9Q.find? (b1e s) with
 | none=>exact .inl ⟨rfl,rfl⟩
 | some e=>
  have h1:=List.find?_some h
  have h2:=b3p (List.mem_of_find?_eq_some h)
  simp only [b1e,q8,decide_eq_true_iff] at h1
  exact .inr ⟨e,rfl,rfl,h2.1,h1.1⟩
theorem a3r {s:r4}(h:a0A s≠s):(a0A s).length<s.length:=by
 rcases a58 s with ⟨_,h1⟩ | ⟨e,_,h1,h2,h3⟩
 ·exact absurd h1 h
 ·rw [h1,b5B,List.length_take];omega
theorem c3k {s e:r4}(h:a9Q.find? (b1e s)=some e):a0A s≠s:=by
 rcases a58 s with ⟨h0,_⟩ | ⟨e',h1,h2,h3,h4⟩
 ·rw [h] at h0;cases h0
 ·intro h5
  have:=congrArg List.length h5
  rw [h2,b5B,List.length_take] at this;omega
theorem c15 (s:r4):(a0A s).length≤s.length:=by
 rcases a58 s with ⟨_,h1⟩ | ⟨e,_,h1,h2,h3⟩
 ·rw [h1];exact Nat.le_refl _
 ·rw [h1,b5B,List.length_take];omega
def a01 (s:r4):r4:=if h:a0A s=s then s else a01 (a0A s)
termination_by s.length
decreasing_by exact a3r h
theorem a9c {s:r4}(h:a0A s=s):a01 s=s:=by rw [a01,dif_pos h]
theorem b59 {s:r4}(h:a0A s≠s):a01 s=a01 (a0A s):=by rw [a01,dif_neg h]
theorem b4k {P:r4→r4→Prop}(h0: ∀s,a0A s=s→P s s)(h1: ∀s t,a0A s≠s→P (a0A s) t→P s t): ∀s,P s (a01 s):=by
 intro s
 induction hn:s.length using Nat.strongRecOn generalizing s with
 | _ n ih=>
  subst hn
  by_cases h:a0A s=s
  ·rw [a9c h];exact h0 s h
  ·rw [b59 h];exact h1 s _ h (ih _ (a3r h) _ rfl)
theorem b4l (s:r4):(a01 s).length≤s.length:=b4k (P:=fun s t=>t.length≤s.length) (fun s _=>Nat.le_refl _) (fun s t _ h=>Nat.le_trans h (c15 s)) s
theorem b7T (s:r4):a01 s<+:s:=b4k (P:=fun s t=>t<+:s) (fun s _=>List.prefix_refl s) (fun s t _ h=>h.trans (by
 rcases a58 s with ⟨_,h1⟩ | ⟨e,_,h1,_⟩
 ·rw [h1];exact List.prefix_refl s
 ·rw [h1];exact List.take_prefix _ _)) s
theorem c2x (s:r4)(h:1≤s.length):1≤(a01 s).length:=by
 have:=b4k (P:=fun s t=>1≤s.length→1≤t.length) (fun s _ h=>h) (fun s t hne ih _=>ih (by
  rcases a58 s with ⟨_,h1⟩ | ⟨e,_,h1,h2,h3⟩
  ·exact absurd h1 hne
  ·rw [h1,b5B,List.length_take];omega)) s
 exact this h
theorem c1g {s:r4}(h:D0 s=true):D0 (a01 s)=true:=by
 simp only [D0,q8,decide_eq_true_iff,List.all_eq_true] at h ⊢
 have h1:=c2x s h.2.1
 have h2:=b4l s
 exact⟨fun b hb=>h.1 b ((b7T s).subset hb),h1,by omega⟩
theorem b7U {s:r4}{k:Nat}(h:k≤s.length):a3C s (k:Int) s.length=some (s.drop k):=by
 rw [a3C,if_pos (by omega)]
 simp
theorem b9H {s:r4}{k:Nat}(h:k≤s.length):a3C s 0 (k:Int)=some (s.take k):=by
 rw [a3C,if_pos (by omega)]
 simp
theorem b99 (F:Nat)(s e:r4)(hs:s.length≤2000000):Y4 F s e=some (decide (e.length≤s.length)&&(s.drop (s.length-e.length)==e)):=by
 unfold Y4 X6
 by_cases h:e.length≤s.length
 ·rw [b8 (show (e.length:Int)≤s.length by omega),j4,b8 h,C5 ⟨by omega,by omega⟩,show (s.length:Int)-e.length=((s.length-e.length:Nat):Int) by omega,b7U (by omega)]
  rfl
 ·rw [c6 (show ¬(e.length:Int)≤s.length by omega),i6,c6 h]
  rfl
theorem c2U (s e:r4):((decide (e.length≤s.length)&&(s.drop (s.length-e.length)==e))&&decide (e.length+3≤s.length))=b1e s e:=by
 unfold b1e
 by_cases h:e.length+3≤s.length
 ·rw [b8 h,b8 (show e.length≤s.length by omega)];simp
 ·rw [c6 h];simp
theorem b5m (F:Nat):a3K F=some a9Q:=rfl
theorem c0V (F:Nat)(s:r4)(hs:s.length≤2000000)(hF:5<F):Z8 F s=some (a0A s):=by
 unfold Z8
 rw [a0u (xs:=a9Q) (b1e s) (fun e=>Sum.inr (b5B s e)) (e:=Sum.inl ()) F hF (fun i e he=>?_) ?_]
 ·unfold a0A
  cases a9Q.find? (b1e s)<;>rfl
 ·rw [b5m,a8,c6 (by omega)];rfl
 ·have hi:=(i4.1 he).1
  have hel:=b3p (n5 he)
  rw [b5m,a8,b8 (by omega),j4,a8,n8,he,a8]
  have hw:z8 ((s.length:Int)-(e.length:Int))=(s.length:Int)-e.length:=C5 ⟨by omega,by omega⟩
  rw [hw]
  unfold b1e
  by_cases h:e.length+3≤s.length
  ·rw [b8 (show (3:Int)≤(s.length:Int)-e.length by omega),j4,b8 h,show (s.length:Int)-e.length=((s.length-e.length:Nat):Int) by omega,b7U (by omega),a8,a8,u5]
   cases s.drop (s.length-e.length)==e
   ·rw [i6,y5 (by have:a9Q.length=5:=rfl;omega)];rfl
   ·rw [j4,b9H (by omega)];rfl
  ·rw [c6 (show ¬(3:Int)≤(s.length:Int)-e.length by omega),i6,c6 h,a8,i6,y5 (by have:a9Q.length=5:=rfl;omega)];rfl
theorem b1N (F:Nat)(s:r4)(hs:s.length≤2000000)(hF:s.length+6<F):a07 F s=some (a01 s):=by
 have key: ∀(G:Nat) (t:r4),t.length<G→t.length≤2000000→y2 (σ:=r4) (τ:=r4) (fun (s10:r4)=>(Option.bind (Z8 F s10) fun r22=>(cond (!(r22==s10)) (Option.bind (Z8 F s10) fun r33=>(some (.inl r33))) (some (.inr s10))))) G t=some (a01 t):=by
  intro G
  induction G with
  | zero=>intro t h;omega
  | succ G ih=>
   intro t h ht
   rw [y2,c0V F t ht (by omega),a8]
   by_cases he:a0A t=t
   ·rw [he,a9c he];simp
   ·rw [b59 he,show (a0A t==t)=false from by simpa using he]
    simp only [Bool.not_false,j4,a8,Sum.elim_inl]
    exact ih _ (by have:=a3r he;omega) (by have:=a3r he;omega)
 unfold a07
 rw [key F s (by omega) hs];rfl
theorem c01 {f:r4×Bool→Option ((r4×Bool)⊕r4)}(h1: ∀t:r4,t.length≤2000000→f (t,true)=some (.inl (a0A t,!(a0A t==t))))(h2: ∀t,f (t,false)=some (.inr t)):
  ∀(G:Nat) (t:r4),t.length+1<G→t.length≤2000000→y2 f G (t,true)=some (a01 t):=by
 intro G
 induction G with
 | zero=>intro t h;omega
 | succ G ih=>
  intro t h ht
  rw [y2,h1 t ht,a8]
  by_cases he:a0A t=t
  ·rw [he,a9c he]
   obtain⟨G,rfl⟩: ∃H,G=H+1:=⟨G-1,by omega⟩
   rw [show (!(t==t))=false from by simp]
   simp only [Sum.elim_inl]
   rw [y2,h2];rfl
  ·rw [b59 he,show (a0A t==t)=false from by simpa using he]
   exact ih _ (by have:=a3r he;omega) (by have:=a3r he;omega)
theorem c0m (F:Nat)(s:r4)(hs:s.length≤2000000)(hF:s.length+6<F):Z6 F s=some (if D0 s then a01 s else []):=by
 unfold Z6
 rw [O0,a8]
 cases hw:D0 s
 ·rfl
 simp only [l7,i6,if_true]
 rw [c01 (fun t ht=>?_) (fun t=>?_) F s (by omega) hs]
 ·rfl
 ·rw [j4]
  rw [show ([([105,110,103]:r4),([101,100]:r4),([101,115]:r4),([108,121]:r4),([115]:r4)]:List r4)=a9Q from rfl,a4P (xs:=a9Q) (b1e t) (fun e=>(b5B t e,true)) (fun i e he=>?_)]
  ·cases h:a9Q.find? (b1e t) with
   | none=>
    have:a0A t=t:=by unfold a0A;rw [h];rfl
    simp [this]
   | some e=>
    have h1:=c3k h
    have h2:a0A t=b5B t e:=by unfold a0A;rw [h];rfl
    rw [show (a0A t==t)=false from by simpa using h1,h2];rfl
  ·have hel:=b3p (n5 he)
   have hww:z8 ((t.length:Int)-(e.length:Int))=(t.length:Int)-e.length:=C5 ⟨by omega,by omega⟩
   rw [n8,he,a8]
   simp only
   rw [b99 F t e ht,a8,hww,←c2U]
   cases hq:(decide (e.length≤t.length)&&(t.drop (t.length-e.length)==e))
   ·rfl
   ·rw [j4,a8,u5]
    by_cases h:e.length+3≤t.length
    ·rw [b8 (show (3:Int)≤(t.length:Int)-e.length by omega),b8 h,j4,show (t.length:Int)-e.length=((t.length-e.length:Nat):Int) by omega,b9H (by omega)];rfl
    ·rw [c6 (show ¬(3:Int)≤(t.length:Int)-e.length by omega),c6 h];rfl
 ·rfl
end Go.Fk
set_option linter.unusedVariables false
namespace Go.Fk
open Go
theorem b4i (F:Nat)(xs:List r4)(v:r4)(hl:xs.length≤2000000)(hF:xs.length<F):a1Q F xs v=some (xs.any (· ==v)):=by
 unfold a1Q
 rw [a0u (xs:=xs) (fun x=>x==v) (fun _=>Sum.inr true) (e:=Sum.inl ()) F hF (fun i x hx=>?_) ?_]
 ·rw [←List.isSome_find?]
  cases xs.find? (· ==v)<;>rfl
 ·rw [c6 (by omega)];rfl
 ·have hi:=(i4.1 hx).1
  rw [b8 (by omega),j4,n8,hx,a8,y5 (by omega)]
  cases x==v<;>rfl
theorem c3E (a b:r4):(a==b)=(b==a):=by
 rw [Bool.eq_iff_iff];simp only [beq_iff_eq];exact eq_comm
theorem a6A (F:Nat)(xs:List r4)(v:r4):L2 F xs v=some (xs.any (· ==v)):=by
 unfold L2 a0z
 rw [b6P (xs:=xs) (fun x=>x==v) (fun i x hx=>?_)]
 ·rw [←c4Q]
  cases xs.findIdx? (· ==v)<;>rfl
 ·rw [n8,hx,a8,c3E v x]
  cases x==v<;>rfl
def a9T (stops:List r4)(w:r4):Bool:=D0 w&&((a01 w==w)&& !stops.any (· ==w))
def a9M (stops:List r4)(r:Z0):Bool:=((decide ((1:Int)≤r.From.length)&&decide ((r.From.length:Int)≤3))&&(D0 r.To&&(a01 r.To==r.To)))&&r.From.all (a9T stops)
def b9Q (xs:List r4):Bool:=a3x D0 D2 xs
def Y6 (c:u6):Bool:=(decide ((c.Stops.length:Int)≤6)&&b9Q c.Stops&&decide ((c.Syns.length:Int)≤4))&&c.Syns.all (a9M c.Stops)
structure a1K (B:Nat)(c:u6):Prop where
 stops:c.Stops.length≤B∧∀s∈c.Stops,s.length≤B
 syns:c.Syns.length≤B∧∀r∈c.Syns,r.From.length≤B∧r.To.length≤B∧∀w∈r.From,w.length≤B
theorem O4 {s:r4}(h:D0 s=true):s.length≤12:=by
 simp only [D0,q8,decide_eq_true_iff] at h
 exact h.2.2
theorem c1T (F:Nat)(xs:List r4)(hl:xs.length≤2000000):a0k F xs=some (b9Q xs):=by
 unfold a0k b9Q
 rw [a63 (ok:=D0) (lt:=D2) (xs:=xs) (fun i x hx=>?_)]
 ·cases a3x D0 D2 xs<;>rfl
 ·have hi:=(i4.1 hx).1
  rw [n8,hx,a8,O0,a8]
  cases D0 x
  ·rfl
  ·simp only [l7,i6,u5]
   rcases Nat.eq_zero_or_pos i with rfl | hp
   ·rfl
   ·rw [b8 (by omega),j4,a0y hp (by omega),n8,c6 (by omega),Bool.false_or]
    have h1:i-1<xs.length:=by omega
    rw [j8 h1]
    simp only [a8,Option.elim_some]
    exact(show ∀b:Bool,(bif !b then some (Sum.inr false) else some (Sum.inl ()))=some (if b=true then Sum.inl () else Sum.inr false) from fun b=>by cases b<;>rfl) _
theorem b6a (F:Nat)(s:r4)(h:D0 s=true)(hF:20<F):Z6 F s=some (a01 s):=by
 rw [c0m F s (by have:=O4 h;omega) (by have:=O4 h;omega),h];rfl
theorem b1m (F:Nat)(c:u6)(h1:c.Stops.length≤2000000)(hF:20<F):a03 F c=some (Y6 c):=by
 unfold a03 Y6
 rw [c1T F _ h1]
 by_cases h6:(c.Stops.length:Int)≤6
 case neg=>
  rw [c6 h6,b8 (by omega)];rfl
 rw [b8 h6,c6 (by omega),i6,a8]
 cases b9Q c.Stops
 ·rfl
 simp only [l7,i6,a8,u5]
 by_cases h4:(c.Syns.length:Int)≤4
 case neg=>
  rw [c6 h4,b8 (by omega)];rfl
 rw [b8 h4,c6 (by omega),i6,u5]
 rw [a0s (p:=a9M c.Stops) (xs:=c.Syns) (fun i r hr=>?_) c.Syns.length 0 (by omega),List.drop_zero]
 ·cases c.Syns.all (a9M c.Stops)<;>rfl
 ·rw [n8,hr,a8,O8,a8,a9M]
  cases decide ((1:Int)≤r.From.length)&&decide ((r.From.length:Int)≤3)
  ·rfl
  simp only [l7,i6,u5]
  rw [O0,a8]
  cases hw:D0 r.To
  ·rfl
  simp only [l7,i6,u5]
  rw [b6a F _ hw hF,a8,a8]
  cases a01 r.To==r.To
  ·rfl
  simp only [l7,i6,u5]
  rw [a0s (p:=a9T c.Stops) (xs:=r.From) (fun j w hj=>?_) r.From.length 0 (by omega),List.drop_zero]
  ·cases r.From.all (a9T c.Stops)<;>rfl
  ·rw [n8,hj,a8,O0,a8,a9T]
   cases hw2:D0 w
   ·rfl
   simp only [l7,i6,u5]
   rw [b6a F _ hw2 hF,a8]
   cases a01 w==w
   ·rfl
   simp only [l7,i6,u5]
   rw [a6A,a8,a8]
   cases c.Stops.any (· ==w)<;>rfl
theorem a0x (F:Nat)(s:r4)(B:Nat)(hs:s.length≤B)(hB:B≤2000000)(hF:B+20<F):E5 F s=some (D0 s):=
 b1O F s (by omega) (by have h0:2000000≤maxLen:=(by decide);omega)
theorem c2p {xs:List r4}{F B:Nat}(hl:xs.length≤B)(hs: ∀s∈xs,s.length≤B)(hB:B≤2000000)(hF:B+20<F){f:Int→Option (Int⊕(Unit⊕Bool))}
  (h: ∀s:Int,f s=(cond (decide (s<(xs.length:Int))) (Option.bind ((Option.bind (v8 xs s) fun x42=>(Option.bind (E5 F x42) fun r52=>(cond (!r52) (some true) (cond (decide ((0:Int)<s)) (Option.bind (v8 xs s) fun x67=>(Option.bind (v8 xs (z8 (s-(1:Int)))) fun x77=>(some (D2 x67 x77||x67==x77)))) (some false))))):Option Bool) fun o35=>(cond o35 (some (.inr (.inr false))) (some (.inl (z8 (s+(1:Int))))))) (some (.inr (.inl ()))))):
  y2 f F (0:Int)=some (if b9Q xs then .inl () else .inr false):=by
 refine a6a (ok:=D0) (lt:=D2) (xs:=xs) (fun i x hx=>?_) ?_ F (by omega)
 ·have hi:=(i4.1 hx).1
  rw [h,b8 (by omega),j4,n8,hx,a8,a0x F x B (hs x (n5 hx)) hB hF,a8]
  cases D0 x
  ·rfl
  ·simp only [l7,i6,u5]
   rw [y5 (by omega)]
   rcases Nat.eq_zero_or_pos i with rfl | hp
   ·rfl
   ·rw [b8 (by omega),j4,a8,a0y hp (by omega),n8,c6 (by omega),Bool.false_or]
    have h1:i-1<xs.length:=by omega
    rw [j8 h1]
    simp only [a8,Option.elim_some]
    have:=a6X xs[i-1] x
    rw [←this]
    exact(show ∀b:Bool,(bif !b then some (Sum.inr (Sum.inr false)) else some (Sum.inl ((i+1:Nat):Int)))=some (if b=true then Sum.inl ((i+1:Nat):Int) else Sum.inr (Sum.inr false)) from fun b=>by cases b<;>rfl) _
 ·rw [h,c6 (by omega)];rfl
theorem b5l (F B:Nat)(c:u6)(hc:a1K B c)(hB:B≤2000000)(hF:B+30<F):a35 F c=some (Y6 c):=by
 obtain⟨⟨h1,h2⟩,h3,h4⟩:=hc
 unfold a35 Y6
 rw [c2p (xs:=c.Stops) (B:=B) h1 h2 hB (by omega) (fun _=>rfl),a8]
 cases b9Q c.Stops
 ·simp only [Bool.and_false,Bool.false_and];rfl
 rw [if_pos rfl]
 simp only [Bool.and_true]
 show Option.bind _ _=_
 show Option.bind _ _=_
 rw [a1R (a9M c.Stops) (xs:=c.Syns) F (by omega) (fun i r hr=>?_) ?_,a8]
 ·cases c.Syns.all (a9M c.Stops)
  ·simp only [Bool.and_false];rfl
  ·rw [if_pos rfl]
   simp only [Bool.and_true]
   show cond _ _ _=_
   cases decide ((c.Stops.length:Int)≤6)<;>rfl
 ·rw [c6 (by omega)];rfl
 ·have hi:=(i4.1 hr).1
  obtain⟨g1,g2,g3⟩:=h4 r (n5 hr)
  rw [b8 (by omega),j4,n8,hr,a8]
  rw [a1R (a9T c.Stops) (xs:=r.From) F (by omega) (fun j w hj=>?_) ?_,a8,a9M]
  ·cases r.From.all (a9T c.Stops)
   ·simp only [Bool.and_false];rfl
   ·rw [if_pos rfl]
    simp only [Bool.and_true]
    show Option.bind _ _=_
    rw [inS,a8,y5 (by omega)]
    cases decide ((1:Int)≤r.From.length)&&decide ((r.From.length:Int)≤3)
    ·rfl
    simp only [l7,i6,u5]
    rw [a0x F r.To B g2 hB (by omega),a8]
    cases hw:D0 r.To
    ·rfl
    simp only [l7,i6,u5]
    rw [b1N F r.To (by omega) (by omega),a8,a8]
    cases a01 r.To==r.To<;>rfl
  ·rw [c6 (by omega)];rfl
  ·have hj2:=(i4.1 hj).1
   have hwl:=g3 w (n5 hj)
   rw [b8 (by omega),j4,n8,hj,a8,a0x F w B hwl hB (by omega),a8,a9T,y5 (by omega)]
   cases hw2:D0 w
   ·rfl
   simp only [l7,i6,u5]
   rw [a8,b1N F w (by omega) (by omega),a8,a8]
   cases a01 w==w
   ·rfl
   simp only [l7,i6,u5]
   rw [a8,b4i F c.Stops w (by omega) (by omega),a8,a8]
   cases c.Stops.any (· ==w)<;>rfl
end Go.Fk
set_option linter.unusedVariables false
namespace Go.Fk
open Go
theorem a9i: ∀(n:Nat) (s:r4) (o k:Nat),s.length≤n→(Q3 s o k).length≤s.length∧∀w∈Q3 s o k,D0 w.Text=true
 | n,[],o,k,_=>by rw [Y3];simp
 | 0,b::r,o,k,h=>by simp at h
 | n+1,b::r,o,k,h=>by
  rw [Q3]
  by_cases hb:u2 b=true
  ·rw [if_pos hb]
   have hl:=List.takeWhile_prefix u2 (l:=b::r)
   have hle:=hl.length_le
   have hpos:0<((b::r).takeWhile u2).length:=by rw [List.takeWhile_cons,if_pos hb];simp
   have ih:=a9i n ((b::r).drop ((b::r).takeWhile u2).length) (o+((b::r).takeWhile u2).length) (k+1) (by rw [List.length_drop];omega)
   rw [List.length_drop] at ih
   refine⟨by rw [s6];omega,fun w hw=>?_⟩
   rcases List.mem_cons.1 hw with rfl | hw
   ·simp only [D0,q8,decide_eq_true_iff,List.all_eq_true]
    refine⟨fun x hx=>?_,?_,?_⟩
    ·obtain⟨y,hy,rfl⟩:=List.mem_map.1 (List.mem_of_mem_take hx)
     exact List.all_eq_true.1 List.all_takeWhile y hy
    ·rw [List.length_take,List.length_map];omega
    ·rw [List.length_take];omega
   ·exact ih.2 w hw
  ·rw [if_neg hb]
   have ih:=a9i n r (o+1) k (by rw [s6] at h;omega)
   exact⟨by rw [s6];omega,ih.2⟩
theorem b5x (s:r4):(a1c s).length≤s.length:=(a9i s.length s 0 0 (Nat.le_refl _)).1
theorem a97 {s:r4}{w:a0g}(h:w∈a1c s):D0 w.Text=true:=(a9i s.length s 0 0 (Nat.le_refl _)).2 w h
def P9 (stops:List r4)(w:a0g):List D3:=if !stops.any (· ==w.Text)&& !stops.any (· ==a01 w.Text) then [⟨a01 w.Text,w.At⟩] else []
def a1X (c:u6)(s:r4):List D3:=(a1c s).flatMap (P9 c.Stops)
def a3m (l:List D3)(fr:List r4):Bool:=fr.zipIdx.all fun q=>(l[q.2]?).elim false fun t=>(t.Text==q.1)&&((l[0]?).elim false fun h=>t.At==z8 (h.At+(q.2:Int)))
def a2v (l:List D3)(best:Option Z0)(r:Z0):Option Z0:=if a3m l r.From&&(best.elim true fun b=>decide (b.From.length<r.From.length)) then some r else best
def a6Q (syns:List Z0)(l:List D3):Option Z0:=syns.foldl (a2v l) none
def a4F (syns:List Z0):Nat→List D3→List D3
 | 0,_=>[]
 | _+1,[]=>[]
 | n+1,t::r=>match a6Q syns (t::r) with
  | none=>t::a4F syns n r
  | some y=>⟨y.To,t.At⟩::a4F syns n ((t::r).drop y.From.length)
def G2 (c:u6)(s:r4):List D3:=a4F c.Syns (a1X c s).length (a1X c s)
theorem a9I (stops:List r4)(w:a0g):(P9 stops w).length≤1:=by unfold P9;split<;>simp
theorem a88 (c:u6)(s:r4):(a1X c s).length≤s.length:=by
 have h1:=Z4 (g:=P9 c.Stops) (m:=1) (a1c s) (fun w _=>a9I c.Stops w)
 have h2:=b5x s
 unfold a1X;omega
theorem a5S {syns:List Z0}{l:List D3}{y:Z0}(h:a6Q syns l=some y):y∈syns:=by
 have: ∀(ss:List Z0) (b:Option Z0),ss.foldl (a2v l) b=some y→y∈ss∨b=some y:=by
  intro ss
  induction ss with
  | nil=>intro b h;exact .inr h
  | cons x r ih=>
   intro b h
   rw [List.foldl_cons] at h
   rcases ih _ h with h1 | h1
   ·exact .inl (List.mem_cons_of_mem _ h1)
   ·unfold a2v at h1
    split at h1
    ·cases h1;exact .inl (List.mem_cons_self ..)
    ·exact .inr h1
 exact(this syns none h).resolve_right (by simp)
def b5y (syns:List Z0):Prop:=∀r∈syns,1≤r.From.length
theorem c19 {syns:List Z0}(hp:b5y syns): ∀(n:Nat) (l:List D3),l.length≤n→a4F syns n l=a4F syns l.length l:=by
 intro n
 induction n using Nat.strongRecOn with
 | _ n ih=>
  intro l hl
  match n,l with
  | 0,[]=>rfl
  | 0,t::r=>simp at hl
  | n+1,[]=>rfl
  | n+1,t::r=>
   rw [s6] at hl ⊢
   simp only [a4F]
   cases hb:a6Q syns (t::r) with
   | none=>simp only;rw [ih n (by omega) r (by omega)]
   | some y=>
    simp only
    have hy:=hp y (a5S hb)
    have hd:((t::r).drop y.From.length).length≤r.length:=by rw [List.length_drop,s6];omega
    rw [ih n (by omega) _ (by omega)]
    rcases Nat.lt_or_ge r.length (n+1) with h | h
    ·by_cases hrn:r.length<n+1
     ·rw [ih r.length (by omega) _ hd]
     ·omega
    ·omega
theorem b6B {c:u6}(h:Y6 c=true):b5y c.Syns:=fun r hr=>by
 unfold Y6 at h
 rw [q8,List.all_eq_true] at h
 have:=h.2 r hr
 simp only [a9M,q8,decide_eq_true_iff] at this
 omega
theorem a7k {c:u6}(h:Y6 c=true):c.Stops.length≤6∧c.Syns.length≤4:=by
 simp only [Y6,q8,decide_eq_true_iff] at h
 omega
theorem b7o {syns:List Z0}(hp:b5y syns){l:List D3}{i:Nat}(hi:i<l.length):a4F syns (l.length-i) (l.drop i)=match a6Q syns (l.drop i) with
  | none=>l[i]::a4F syns (l.length-(i+1)) (l.drop (i+1))
  | some y=>⟨y.To,l[i].At⟩::a4F syns (l.length-(i+y.From.length)) (l.drop (i+y.From.length)):=by
 rw [show l.length-i=(l.length-(i+1))+1 by omega]
 have hc:=List.drop_eq_getElem_cons hi
 cases hb:a6Q syns (l.drop i) with
 | none=>
  rw [hc] at hb ⊢
  simp only [a4F,hb]
 | some y=>
  have hy:=hp y (a5S hb)
  have e1:(l[i]::l.drop (i+1)).drop y.From.length=l.drop (i+y.From.length):=by rw [←hc,List.drop_drop]
  rw [hc] at hb ⊢
  simp only [a4F,hb,e1]
  rw [c19 hp _ (l.drop (i+y.From.length)) (by rw [List.length_drop];omega),List.length_drop]
theorem b27 (syns:List Z0)(n:Nat):a4F syns n []=[]:=by cases n<;>rfl
theorem b0e {l:List D3}{fr:List r4}(h:l.length<fr.length):a3m l fr=false:=by
 unfold a3m
 rw [List.all_eq_false]
 refine⟨(fr[l.length],l.length),List.mem_iff_getElem?.2 ⟨l.length,by rw [List.getElem?_zipIdx,j8 h];simp⟩,?_⟩
 simp
theorem b7L (F:Nat)(l:List D3)(fr:List r4)(hl:l.length≤2000000)(hfr:fr.length≤2000000)(hF:fr.length<F):a0H F l fr=some (a3m l fr):=by
  unfold a0H a3m
  have hz:fr.zipIdx.length=fr.length:=by simp
  have hloop:=a1R (xs:=fr.zipIdx) (fun q=>(l[q.2]?).elim false fun t=>(t.Text==q.1)&&((l[0]?).elim false fun h=>t.At==z8 (h.At+(q.2:Int)))) F (by omega) (f:=fun (s17:Int)=>(cond (decide (s17<(fr.length:Int))) (Option.bind ((cond (decide ((l.length:Int)≤s17)) (some true) (Option.bind (v8 l s17) fun x44=>(Option.bind (v8 fr s17) fun x55=>(cond (!(x44.Text==x55)) (some true) (Option.bind (v8 l s17) fun x71=>(Option.bind (v8 l (0:Int)) fun x82=>(some (!(x71.At==(z8 (x82.At+s17))))))))))):Option Bool) fun o31=>(cond o31 (some (.inr (.inr false))) (some (.inl (z8 (s17+(1:Int))))))) (some (.inr (.inl ())))))
    (fun i q hq=>by
      obtain⟨hx,rfl⟩:=b4w hq
      have hi:=(i4.1 hx).1
      show cond _ _ _=_
      rw [T6,b8 (by omega),j4,y5 (by omega)]
      rcases Nat.lt_or_ge q.2 l.length with h | h
      · rw [c6 (by omega),i6,n8,n8,hx,j8 h,a8,a8]
        simp only [Option.elim_some]
        cases l[q.2].Text==q.1
        · rfl
        · simp only [l7,i6,a8,u5]
          rw [show (0:Int)=((0:Nat):Int) from rfl,n8,j8 (show 0<l.length by omega)]
          simp only [a8,Option.elim_some]
          cases l[q.2].At==z8 (l[0].At+(q.2:Int))<;>rfl
      · rw [b8 (by omega),j4,List.getElem?_eq_none h];rfl)
    (by show cond _ _ _=_
        rw [hz,c6 (by omega)];rfl)
  rw [hloop]
  cases fr.zipIdx.all _<;>rfl
theorem c2v (F:Nat)(c:u6)(l:List D3)(hl:l.length≤2000000)(hs:c.Syns.length≤2000000)(hfr: ∀r∈c.Syns,r.From.length≤2000000∧r.From.length<F)(hF:c.Syns.length<F):
  ∃k:Int,a4n F c l=some k∧((k<0∧a6Q c.Syns l=none)∨∃y,0≤k∧v8 c.Syns k=some y∧a6Q c.Syns l=some y):=by
 unfold a4n
 have key: ∀(k i:Nat) (G:Nat) (b:Int) (m:Option Z0),i+k=c.Syns.length→k<G→((b<0∧m=none)∨∃y,0≤b∧v8 c.Syns b=some y∧m=some y)→
   ∃b':Int,y2 (σ:=Int×Int) (τ:=Int) (fun (s25:Int×Int)=>(cond (decide (s25.2<(c.Syns.length:Int))) (Option.bind ((Option.bind (v8 c.Syns s25.2) fun x47=>(Option.bind (a0H F l x47.From) fun r61=>(cond r61 (cond (decide (s25.1<(0:Int))) (some true) (Option.bind (v8 c.Syns s25.2) fun x76=>(Option.bind (v8 c.Syns s25.1) fun x90=>(some (decide ((x90.From.length:Int)<(x76.From.length:Int))))))) (some false)))):Option Bool) fun o40=>(cond o40 (some (.inl (s25.2,(z8 (s25.2+(1:Int)))))) (some (.inl (s25.1,(z8 (s25.2+(1:Int)))))))) (some (.inr s25.1)))) G (b,(i:Int))=some b'∧
    ((b'<0∧(c.Syns.drop i).foldl (a2v l) m=none)∨∃y,0≤b'∧v8 c.Syns b'=some y∧(c.Syns.drop i).foldl (a2v l) m=some y):=by
  intro k
  induction k with
  | zero=>
   intro i G b m hi hG hb
   obtain⟨G,rfl⟩: ∃H,G=H+1:=⟨G-1,by omega⟩
   refine⟨b,?_,?_⟩
   ·rw [y2]
    simp only
    rw [c6 (by omega)];rfl
   ·rw [List.drop_of_length_le (by omega)];exact hb
  | succ k ih=>
   intro i G b m hi hG hb
   obtain⟨G,rfl⟩: ∃H,G=H+1:=⟨G-1,by omega⟩
   have hlt:i<c.Syns.length:=by omega
   have hat:v8 c.Syns (i:Int)=some c.Syns[i]:=T5 hlt
   have hmem:c.Syns[i]∈c.Syns:=List.getElem_mem hlt
   rw [List.drop_eq_getElem_cons hlt,List.foldl_cons,y2]
   simp only
   rw [b8 (by omega),j4,hat,a8,b7L F l _ hl (hfr _ hmem).1 (hfr _ hmem).2,a8,y5 (by omega)]
   cases hbg:a3m l c.Syns[i].From
   ·have e:a2v l m c.Syns[i]=m:=by unfold a2v;rw [hbg];simp
    rw [e]
    exact ih (i+1) G b m (by omega) (by omega) hb
   ·rw [j4]
    rcases hb with ⟨h1,rfl⟩ | ⟨y,h1,h2,rfl⟩
    ·have e:a2v l none c.Syns[i]=some c.Syns[i]:=by unfold a2v;rw [hbg];simp
     rw [b8 h1,j4,a8,j4,e]
     exact ih (i+1) G _ _ (by omega) (by omega) (.inr ⟨_,by omega,hat,rfl⟩)
    ·rw [c6 (by omega),i6,h2,a8,a8,a8]
     by_cases hlen:y.From.length<c.Syns[i].From.length
     ·have e:a2v l (some y) c.Syns[i]=some c.Syns[i]:=by unfold a2v;rw [hbg];simp [hlen]
      rw [b8 (by omega),j4,e]
      exact ih (i+1) G _ _ (by omega) (by omega) (.inr ⟨_,by omega,hat,rfl⟩)
     ·have e:a2v l (some y) c.Syns[i]=some y:=by unfold a2v;rw [hbg];simp [hlen]
      rw [c6 (by omega),i6,e]
      exact ih (i+1) G _ _ (by omega) (by omega) (.inr ⟨_,h1,h2,rfl⟩)
 obtain⟨b',h1,h2⟩:=key c.Syns.length 0 F (-1) none (by omega) hF (.inl ⟨by omega,rfl⟩)
 rw [List.drop_zero] at h2
 refine⟨b',?_,h2⟩
 rw [show (0:Int)=((0:Nat):Int) from rfl] at *
 rw [h1];rfl
theorem c1o (xs:List (r4×Nat))(p:r4×Nat→Bool): ∀b:Bool,xs.foldl (fun s x=>s&&p x) b=(b&&xs.all p):=by
 induction xs with
 | nil=>intro b;simp
 | cons x r ih=>intro b;rw [List.foldl_cons,ih,List.all_cons,Bool.and_assoc]
theorem c0l (F:Nat)(c:u6)(l:List D3)(at_:Nat)(hl:l.length≤2000000)(ha:at_<l.length)(hfr: ∀r∈c.Syns,r.From.length≤2000000):a3H F c l (at_:Int)=some (a6Q c.Syns (l.drop at_)):=by
 unfold a3H a6Q
 rw [a81 (a2v (l.drop at_)) (fun i r b hr=>?_)]
 ·rfl
 ·rw [n8,hr,a8,C5 ⟨by omega,by omega⟩]
  have hrl:=hfr r (n5 hr)
  by_cases hlen:(l.length:Int)-at_<r.From.length
  ·rw [b8 hlen,j4,a8,j4]
   unfold a2v
   rw [b0e (by rw [List.length_drop];omega)];simp
  ·rw [c6 hlen,i6]
   have hfits:(a0C (fun (i106:Nat) (s102:Bool)=>(Option.bind (v8 r.From ((i106:Nat):Int)) fun x115=>(Option.bind (v8 l (z8 ((at_:Int)+((i106:Nat):Int)))) fun x125=>(cond s102 (cond (x125.Text==x115) (Option.bind (v8 l (at_:Int)) fun x146=>(some (x125.At==(z8 (x146.At+((i106:Nat):Int)))))) (some false)) (some false))))) r.From.length 0 true)=some (a3m (l.drop at_) r.From):=by
    have hz:r.From.length=r.From.zipIdx.length:=by simp
    rw [hz,a81 (xs:=r.From.zipIdx) (fun s q=>s&&(((l.drop at_)[q.2]?).elim false fun t=>(t.Text==q.1)&&(((l.drop at_)[0]?).elim false fun h=>t.At==z8 (h.At+(q.2:Int))))) (fun i q s hq=>?_),c1o,u5]
    ·rfl
    ·obtain⟨hx,rfl⟩:=b4w hq
     have hi:=(i4.1 hx).1
     rw [n8,hx,a8,C5 ⟨by omega,by omega⟩,show (at_:Int)+(q.2:Int)=((at_+q.2:Nat):Int) by omega,n8,n8,List.getElem?_drop,List.getElem?_drop,Nat.add_zero,j8 (show at_+q.2<l.length by omega),j8 ha,a8]
     simp only [Option.elim_some,a8]
     cases s
     ·rfl
     ·cases l[at_+q.2].Text==q.1<;>rfl
   rw [hfits]
   unfold a2v
   rw [T6]
   cases b with
   | none=>
    simp only [Option.isSome_none,i6,a8,Option.elim_none,Bool.and_true]
    cases a3m (l.drop at_) r.From<;>rfl
   | some y=>
    simp only [Option.isSome_some,j4,a8,Option.elim_some]
    by_cases hy:r.From.length≤y.From.length
    ·rw [b8 (by omega),c6 (by omega)];simp
    ·rw [c6 (by omega),b8 (by omega)]
     cases a3m (l.drop at_) r.From<;>rfl
end Go.Fk
set_option linter.unusedVariables false
namespace Go.Fk
open Go
theorem b4P {c:u6}(h:Y6 c=true): ∀r∈c.Syns,r.From.length≤3:=fun r hr=>by
 unfold Y6 at h
 rw [q8,List.all_eq_true] at h
 have:=h.2 r hr
 simp only [a9M,q8,decide_eq_true_iff] at this
 omega
theorem b26 {syns:List Z0}: ∀(n:Nat) (l:List D3),(a4F syns n l).length≤n
 | 0,l=>by rw [a4F];simp
 | n+1,[]=>by rw [a4F];simp
 | n+1,t::r=>by
  simp only [a4F]
  cases a6Q syns (t::r) with
  | none=>simp only [s6];have:=b26 (syns:=syns) n r;omega
  | some y=>simp only [s6];have:=b26 (syns:=syns) n ((t::r).drop y.From.length);omega
theorem a4g (c:u6)(s:r4):(G2 c s).length≤s.length:=by
 have h1:=b26 (syns:=c.Syns) (a1X c s).length (a1X c s)
 have h2:=a88 c s
 unfold G2;omega
theorem a7q (F:Nat)(c:u6)(s:r4)(hs:s.length≤2000000)(hc:c.Stops.length≤2000000)(hF:s.length+30<F):Q7 F c s=some (if Y6 c&&a2n s then G2 c s else []):=by
 unfold Q7
 rw [b1m F c hc (by omega),a8,T6]
 cases hcs:Y6 c
 ·rfl
 simp only [l7,i6,u5]
 rw [b1o,a8,a8]
 cases hts:a2n s
 ·rfl
 simp only [l7,i6,j4]
 rw [a9X F s hs (by omega),hts,if_pos rfl,a8]
 have hpl:=a88 c s
 rw [a7o (P9 c.Stops) 2000000 (fun i w acc hw hB=>?_) [] (by rw [List.nil_append];unfold a1X at hpl;omega),List.nil_append,a8,a8]
 ·have hfold:(a1c s).flatMap (P9 c.Stops)=a1X c s:=rfl
  rw [hfold]
  have hp:=b6B hcs
  have hfr:=b4P hcs
  obtain⟨l,hl⟩: ∃l,l=a1X c s:=⟨_,rfl⟩
  rw [←hl] at hpl ⊢
  rw [a9g (t:=a4F c.Syns l.length l) (fun i st=>∃(out:List D3) (o:Nat),st=(out,(o:Int))∧i≤o∧out.length≤o∧o≤l.length+3∧out++a4F c.Syns (l.length-o) (l.drop o)=a4F c.Syns l.length l) l.length
   (fun i st hi ⟨out,o,e1,e2,e3,e4,e5⟩=>?_) (fun st ⟨out,o,e1,e2,e3,e4,e5⟩=>?_) l.length 0 (([]:List D3),(0:Int)) F (by omega) (by omega) ⟨[],0,rfl,by omega,by simp,by omega,by simp⟩]
  ·rw [hl];rfl
  ·subst e1
   rcases Nat.lt_or_ge o l.length with hol | hol
   ·refine .inl ?_
    rw [b8 (by omega),j4,c0l F c l o (by omega) hol (fun r hr=>by have:=hfr r hr;omega),a8,n8,j8 hol]
    have hr:=b7o hp hol
    cases hb:a6Q c.Syns (l.drop o) with
    | none=>
     rw [hb] at hr
     simp only [Option.isNone_none,j4,a8] at hr ⊢
     rw [H4 (by simp;omega),a8,y5 (by omega)]
     exact⟨_,rfl,_,_,rfl,by omega,by rw [o0,l8];omega,by omega,by rw [List.append_assoc,←e5,hr];rfl⟩
    | some y=>
     rw [hb] at hr
     have hy:=hp y (a5S hb)
     have hy3:=hfr y (a5S hb)
     simp only [Option.isNone_some,i6,a8] at hr ⊢
     rw [H4 (by simp;omega),a8,show (o:Int)+(y.From.length:Int)=((o+y.From.length:Nat):Int) by omega,C5 ⟨by omega,by omega⟩]
     exact⟨_,rfl,_,_,rfl,by omega,by rw [o0,l8];omega,by omega,by rw [List.append_assoc,←e5,hr];rfl⟩
   ·refine .inr ?_
    rw [c6 (by omega)]
    show some (Sum.inr out)=_
    rw [←e5,List.drop_of_length_le hol,b27,List.append_nil]
  ·subst e1
   rw [c6 (by omega)]
   show some (Sum.inr out)=_
   rw [←e5,List.drop_of_length_le (by omega),b27,List.append_nil]
 ·have hww:=a97 (n5 hw)
  rw [n8,hw,a8,b6a F _ hww (by omega),a8,a6A,a8,a6A]
  unfold P9 at hB ⊢
  revert hB
  rw [T6]
  cases c.Stops.any (· ==w.Text)
  ·simp only [Bool.not_false,j4,a8,u5]
   cases c.Stops.any (· ==a01 w.Text)
   ·intro hB
    simp only [Bool.not_false,j4] at hB ⊢
    rw [H4 (by simp at hB ⊢;omega)];rfl
   ·intro _;simp
  ·intro _;simp
theorem b8J (F:Nat)(c:u6)(s:r4)(hs:s.length≤2000000)(hc:c.Stops.length≤2000000)(hF:s.length+30<F)(hF2:c.Stops.length<F):a2R F c s=some (a1X c s):=by
 unfold a2R
 have hpl:=a88 c s
 have hwl:=b5x s
 rw [b8N F s hs (by omega),a8]
 rw [a5W (xs:=a1c s) (P9 c.Stops) 2000000 F (by omega) (fun i w acc hw hB=>?_) (fun acc=>?_) [] (by rw [List.nil_append];unfold a1X at hpl;omega),List.nil_append]
 ·rfl
 ·have hi:=(i4.1 hw).1
  have hww:=a97 (n5 hw)
  have h12:=O4 hww
  have hst:=b4l w.Text
  rw [b8 (by omega),j4,n8,hw,a8,b1N F _ (by omega) (by omega),a8,y5 (by omega),a8,b4i F _ _ hc hF2,a8,b4i F _ _ hc hF2]
  unfold P9 at hB ⊢
  revert hB
  rw [T6]
  cases c.Stops.any (· ==w.Text)
  ·simp only [Bool.not_false,j4,a8,u5]
   cases c.Stops.any (· ==a01 w.Text)
   ·intro hB
    simp only [Bool.not_false,j4] at hB ⊢
    rw [H4 (by simp at hB ⊢;omega)];rfl
   ·intro _;simp
  ·intro _;simp
 ·rw [c6 (by omega)];rfl
theorem a9e {α:Type}{xs:List α}{k:Nat}(h:k≤xs.length):a1G xs (k:Int) xs.length=some (xs.drop k):=by
 rw [a1G,if_pos (by omega)];simp
theorem b77 {l:List D3}{fr:List r4}(h:a3m l fr=true):fr.length≤l.length:=by
 rcases Nat.lt_or_ge l.length fr.length with h1 | h1
 ·rw [b0e h1] at h;cases h
 ·exact h1
theorem b6p {syns:List Z0}{l:List D3}{y:Z0}(h:a6Q syns l=some y):a3m l y.From=true:=by
 have: ∀(ss:List Z0) (b:Option Z0),(∀z,b=some z→a3m l z.From=true)→∀z,ss.foldl (a2v l) b=some z→a3m l z.From=true:=by
  intro ss
  induction ss with
  | nil=>intro b hb z h;exact hb z h
  | cons x r ih=>
   intro b hb z h
   rw [List.foldl_cons] at h
   refine ih _ (fun z hz=>?_) z h
   unfold a2v at hz
   split at hz
   ·rename_i hc
    cases hz
    simp only [q8] at hc
    exact hc.1
   ·exact hb z hz
 exact this syns none (by simp) y h
theorem a7x (F:Nat)(c:u6)(s:r4)(hcs:Y6 c=true)(hs:s.length≤2000000)(hF:s.length+30<F):T2 F c s=some (G2 c s):=by
 unfold T2
 have hst:=a7k hcs
 have hp:=b6B hcs
 have hfr:=b4P hcs
 rw [b8J F c s hs (by omega) (by omega) (by omega),a8]
 have hpl:=a88 c s
 unfold G2
 obtain⟨l,hl⟩: ∃l,l=a1X c s:=⟨_,rfl⟩
 rw [←hl] at hpl ⊢
 rw [a9g (t:=a4F c.Syns l.length l) (fun i st=>∃(out:List D3) (o:Nat),st=(out,l.drop o)∧i≤o∧out.length≤o∧o≤l.length+3∧out++a4F c.Syns (l.length-o) (l.drop o)=a4F c.Syns l.length l) l.length
  (fun i st hi ⟨out,o,e1,e2,e3,e4,e5⟩=>?_) (fun st ⟨out,o,e1,e2,e3,e4,e5⟩=>?_) l.length 0 (([]:List D3),l) F (by omega) (by omega) ⟨[],0,rfl,by omega,by simp,by omega,by simp⟩]
 ·rfl
 ·subst e1
  rcases Nat.lt_or_ge o l.length with hol | hol
  ·refine .inl ?_
   have hdl:(l.drop o).length=l.length-o:=List.length_drop
   have hd0:(l.drop o)[0]? =some l[o]:=by rw [List.getElem?_drop,Nat.add_zero];exact j8 hol
   have h00:v8 (l.drop o) (0:Int)=some l[o]:=by rw [show (0:Int)=((0:Nat):Int) from rfl,n8];exact hd0
   obtain⟨k,hk,hor⟩:=c2v F c (l.drop o) (by omega) (by omega) (fun r hr=>by have:=hfr r hr;omega) (by omega)
   rw [b8 (by simp only;omega),j4,hk,a8,h00]
   have hr:=b7o hp hol
   rcases hor with ⟨h1,hb⟩ | ⟨y,h1,h2,hb⟩
   ·rw [hb] at hr
    rw [b8 h1,j4,a8,H4 (by simp;omega),a8]
    simp only
    rw [show (1:Int)=((1:Nat):Int) from rfl,a9e (by omega),a8,List.drop_drop]
    exact⟨_,rfl,_,_,rfl,by omega,by rw [o0,l8];omega,by omega,by rw [List.append_assoc,←e5,hr];rfl⟩
   ·rw [hb] at hr
    have hy:=hp y (a5S hb)
    have hy3:=hfr y (a5S hb)
    have hyl:=b77 (b6p hb)
    rw [c6 (by omega),i6,h2,a8,a8,H4 (by simp;omega),a8,a8]
    simp only
    rw [a9e (by omega),a8,List.drop_drop]
    exact⟨_,rfl,_,_,rfl,by omega,by rw [o0,l8];omega,by omega,by rw [List.append_assoc,←e5,hr];rfl⟩
  ·refine .inr ?_
   rw [List.drop_of_length_le hol]
   show some (Sum.inr out)=_
   rw [←e5,List.drop_of_length_le hol,b27,List.append_nil]
 ·subst e1
  rw [List.drop_of_length_le (by omega)]
  show some (Sum.inr out)=_
  rw [←e5,List.drop_of_length_le (by omega),b27,List.append_nil]
end Go.Fk
set_option linter.unusedVariables false
namespace Go.Fk
open Go
theorem b7Q (F:Nat)(l:List r4)(s:r4)(hl:l.length≤1000000)(hF:l.length<F):a0O F l s=some (a5y s l):=by
 unfold a0O
 have hw: ∀f,(∀(i:Nat) x,l[i]? =some x→f (i:Int)=some (if D2 x s then .inl ((i+1:Nat):Int) else .inr (i:Int)))→f (l.length:Int)=some (.inr (l.length:Int))→y2 f F (0:Int)=some ((a3V s l:Nat):Int):=fun f a b=>by
  have:=b2c (f:=f) a b l.length 0 F (by omega) (by omega)
  rwa [List.drop_zero,Nat.zero_add] at this
 rw [hw _ (fun i x hx=>?_) ?_]
 ·have hr:=b7m s l
  have c1:a1G l 0 ((a3V s l:Nat):Int)=some (l.take (a3V s l)):=by
   unfold a1G
   rw [if_pos ⟨by omega,by omega,by omega⟩]
   simp
  have c2:a1G l ((a3V s l:Nat):Int) (l.length:Int)=some (l.drop (a3V s l)):=a9e hr
  have l1:(l.take (a3V s l)).length≤1000000:=by simp;omega
  have l2:(l.drop (a3V s l)).length≤1000000:=by simp;omega
  have l0:([]:List r4).length=0:=rfl
  have hc:(cond (decide (((a3V s l:Nat):Int)<(l.length:Int))) (Option.bind (v8 l ((a3V s l:Nat):Int)) fun x57=>some (x57==s)) (some false))=some ((l[a3V s l]?).elim false fun x=>x==s):=by
   rcases Nat.lt_or_ge (a3V s l) l.length with h | h
   ·rw [b8 (by omega),j4,n8,j8 h];rfl
   ·rw [c6 (by omega),List.getElem?_eq_none h];rfl
  rw [a8,a8,hc,a8,b6V,T6]
  cases (l[a3V s l]?).elim false fun x=>x==s
  ·simp only [i6]
   rw [c1,a8,H4 (by omega),List.nil_append,a8,H4 (by simp only [l8];omega),a8,c2,a8,
    H4 (by simp only [o0,l8];omega),a8]
  ·rfl
 ·rw [c6 (by omega)];rfl
 ·have hi:=(i4.1 hx).1
  rw [b8 (by omega),j4,n8,hx,a8,a8,y5 (by omega)]
  cases D2 x s<;>rfl
def H7 (d:A1)(n:r4):r4:=(d.Fields.find? fun f=>f.Name==n).elim [] (·.Text)
def a9K (a:List r4)(ts:List D3):List r4:=ts.foldl (fun a t=>a5y t.Text a) a
def a0E (docs:List A1):List r4:=docs.foldl (fun a d=>d.Fields.foldl (fun a f=>a5y f.Name a) a) []
def M9 (c:u6)(docs:List A1)(n:r4):List r4:=docs.foldl (fun a d=>a9K a (G2 c (H7 d n))) []
def U5 (c:u6)(d:A1)(n t:r4):List Int:=(G2 c (H7 d n)).flatMap fun x=>if x.Text==t then [x.At] else []
def H6 (c:u6)(n t:r4)(d:A1):List F7:=if decide (0<(U5 c d n t).length) then [⟨d.Id,U5 c d n t⟩] else []
def O5 (c:u6)(docs:List A1)(n t:r4):C0:=⟨n,t,docs.flatMap (H6 c n t)⟩
def a1F (c:u6)(docs:List A1):A5:=⟨docs,(a0E docs).flatMap fun n=>(M9 c docs n).map (O5 c docs n)⟩
theorem b1l {d:A1}(hd:a7X d)(n:r4):(H7 d n).length≤1000:=by
 unfold H7
 cases h:d.Fields.find? fun f=>f.Name==n with
 | none=>simp
 | some f=>exact(hd.field f (List.mem_of_find?_eq_some h)).2
theorem b4h (F:Nat)(d:A1)(n:r4)(hd:a7X d)(hF:200<F):a1s F d n=some (H7 d n):=by
 have h1:=hd.fields
 unfold a1s
 rw [a0u (xs:=d.Fields) (fun f=>f.Name==n) (fun f=>(Sum.inr f.Text:Unit⊕r4)) (e:=Sum.inl ()) F (by omega) (fun i x hx=>?_) ?_]
 ·unfold H7
  cases d.Fields.find? fun f=>f.Name==n<;>rfl
 ·rw [c6 (by omega)];rfl
 ·have hi:=(i4.1 hx).1
  rw [b8 (by omega),j4,n8,hx,a8,a8,y5 (by omega),T6]
  cases x.Name==n<;>rfl
theorem b4j (F:Nat)(docs:List A1)(hd:X3 docs)(hF:200000<F):a2W F docs=some (a0E docs)∧(a0E docs).length≤10000:=by
 have hfew:=hd.few
 unfold a2W a0E
 have key:=Y1 (xs:=docs) (fun a d=>d.Fields.foldl (fun a f=>a5y f.Name a) a) (fun i (a:List r4)=>a.length≤i*100) id (fun a i=>(a,i))
  (f:=fun s22=>(cond (decide (s22.2<(docs.length:Int))) (Option.bind ((Option.bind (y2 (σ:=(List r4)×Int) (τ:=(List r4)) (fun (s51:(List r4)×Int)=>(Option.bind (v8 docs s22.2) fun x67=>(cond (decide (s51.2<(x67.Fields.length:Int))) (Option.bind (v8 docs s22.2) fun x87=>(Option.bind (v8 x87.Fields s51.2) fun x105=>(Option.bind (a0O F s51.1 x105.Name) fun r116=>(some (.inl (r116,(z8 (s51.2+(1:Int))))))))) (some (.inr s51.1))))) F (s22.1,(0:Int))) fun r52=>(some r52)):Option (List r4)) fun o40=>(some (.inl (o40,(z8 (s22.2+(1:Int))))))) (some (.inr s22.1))))
  [] rfl F (by omega) (by simp) (fun i d a hx ha=>?_) (fun a ha=>?_)
 ·obtain⟨k1,k2⟩:=key
  refine⟨?_,?_⟩
  ·rw [k1];rfl
  ·have:docs.length*100≤10000:=by omega
   omega
 ·have hi:=(i4.1 hx).1
  have hdd:=hd.doc d (n5 hx)
  have hfl:=hdd.fields
  have inner:=Y1 (xs:=d.Fields) (fun a (f:Q6)=>a5y f.Name a) (fun j (b:List r4)=>b.length≤i*100+j) id (fun a i=>(a,i))
   (f:=fun (s51:(List r4)×Int)=>(Option.bind (v8 docs (i:Int)) fun x67=>(cond (decide (s51.2<(x67.Fields.length:Int))) (Option.bind (v8 docs (i:Int)) fun x87=>(Option.bind (v8 x87.Fields s51.2) fun x105=>(Option.bind (a0O F s51.1 x105.Name) fun r116=>(some (.inl (r116,(z8 (s51.2+(1:Int))))))))) (some (.inr s51.1)))))
   a rfl F (by omega) (by omega) (fun j f b hf hb=>?_) (fun b hb=>?_)
  ·obtain⟨k1,k2⟩:=inner
   refine⟨?_,by omega⟩
   simp only
   rw [b8 (by omega),j4,k1,a8,a8,y5 (by omega)]
   rfl
  ·have hj:=(i4.1 hf).1
   have hil:=b0x f.Name b
   refine⟨?_,by omega⟩
   simp only
   rw [n8,hx,a8,b8 (by omega),j4,a8,n8,hf,a8,b7Q F b _ (by omega) (by omega),a8,y5 (by omega)]
  ·simp only
   rw [n8,hx,a8,c6 (by omega)];rfl
 ·simp only
  rw [c6 (by omega)];rfl
theorem b0s {α σ:Type}{g:σ→α→σ}(I:Nat→σ→Prop): ∀(xs:List α) (i:Nat) (s:σ),I i s→(∀i x s,x∈xs→I i s→I (i+1) (g s x))→I (i+xs.length) (xs.foldl g s)
 | [],i,s,h,_=>h
 | x::r,i,s,h,hg=>by
  rw [List.foldl_cons,s6,show i+(r.length+1)=i+1+r.length by omega]
  exact b0s I r (i+1) _ (hg i x s (by simp) h) fun i y s hy=>hg i y s (by simp [hy])
theorem b7j (ts:List D3)(a:List r4):(a9K a ts).length≤a.length+ts.length:=by
 have:=b0s (g:=fun a (t:D3)=>a5y t.Text a) (fun i b=>b.length≤a.length+i) ts 0 a (by omega) (fun i t b _ hb=>by have:=b0x t.Text b;show (a5y t.Text b).length≤_;omega)
 unfold a9K;omega
theorem a82 {c:u6}{d:A1}(hd:a7X d)(n:r4):(G2 c (H7 d n)).length≤1000:=by
 have:=a4g c (H7 d n)
 have:=b1l hd n
 omega
theorem b3v (c:u6){docs:List A1}(hd:X3 docs)(n:r4):(M9 c docs n).length≤100000:=by
 have hfew:=hd.few
 have:=b0s (g:=fun a d=>a9K a (G2 c (H7 d n))) (fun i b=>b.length≤i*1000) docs 0 [] (by simp) (fun i d b hm hb=>by have:=b7j (G2 c (H7 d n)) b;have:=a82 (c:=c) (hd.doc d hm) n;show (a9K b _).length≤_;omega)
 unfold M9;omega
theorem b7M (F:Nat)(c:u6)(docs:List A1)(n:r4)(hc:Y6 c=true)(hd:X3 docs)(hF:200000<F):a2X F c docs n=some (M9 c docs n):=by
 have hfew:=hd.few
 unfold a2X M9
 rw [(Y1 (xs:=docs) (fun a d=>a9K a (G2 c (H7 d n))) (fun i (a:List r4)=>a.length≤i*1000) id (fun a i=>(a,i)) [] rfl F (by omega) (by simp) (fun i d a hx ha=>?_) (fun a ha=>?_)).1]
 ·rfl
 ·have hi:=(i4.1 hx).1
  have hdd:=hd.doc d (n5 hx)
  have hfl:=b1l hdd n
  have hone:=a82 (c:=c) hdd n
  refine⟨?_,?_⟩
  ·simp only
   rw [b8 (by omega),j4,n8,hx,a8,b4h F d n hdd (by omega),a8,a7x F c _ hc (by omega) (by omega),a8]
   rw [(Y1 (xs:=G2 c (H7 d n)) (fun a (t:D3)=>a5y t.Text a) (fun j (b:List r4)=>b.length≤i*1000+j) id (fun a i=>(a,i)) a rfl F (by omega) (by rw [Nat.add_zero];exact ha) (fun j t b ht hb=>?_) (fun b hb=>?_)).1,a8,a8,y5 (by omega)]
   ·rfl
   ·have hj:=(i4.1 ht).1
    have hil:=b0x t.Text b
    refine⟨?_,by omega⟩
    simp only
    rw [b8 (by omega),j4,n8,ht,a8,b7Q F b _ (by omega) (by omega),a8,y5 (by omega)]
   ·simp only
    rw [c6 (by omega)];rfl
  ·have:=b7j (G2 c (H7 d n)) a
   omega
 ·simp only
  rw [c6 (by omega)];rfl
theorem c17 {c:u6}{d:A1}(hd:a7X d)(n t:r4):(U5 c d n t).length≤1000:=by
 have h1:=Z4 (g:=fun x:D3=>if x.Text==t then [x.At] else []) (m:=1) (G2 c (H7 d n)) (fun x _=>by split<;>simp)
 have h2:=a82 (c:=c) hd n
 unfold U5;omega
theorem c0W (F:Nat)(c:u6)(d:A1)(n t:r4)(hc:Y6 c=true)(hd:a7X d)(hF:200000<F):a3Q F c d n t=some (U5 c d n t):=by
 have hfl:=b1l hd n
 have hone:=a82 (c:=c) hd n
 have hpl:=c17 (c:=c) hd n t
 unfold a3Q
 rw [b4h F d n hd (by omega),a8,a7x F c _ hc (by omega) (by omega),a8]
 rw [a5W (xs:=G2 c (H7 d n)) (fun x:D3=>if x.Text==t then [x.At] else []) 1000 F (by omega) (fun i x acc hx hB=>?_) (fun acc=>?_) [] (by rw [List.nil_append];exact hpl),List.nil_append,a8,a8]
 ·rfl
 ·have hi:=(i4.1 hx).1
  rw [b8 (by omega),j4,n8,hx,a8,a8,y5 (by omega)]
  revert hB
  rw [T6]
  cases x.Text==t
  ·intro _;simp
  ·intro hB
   simp only [j4] at hB ⊢
   rw [H4 (by simp at hB ⊢;omega)];rfl
 ·rw [c6 (by omega)];rfl
theorem b1W (c:u6)(n t:r4)(d:A1):(H6 c n t d).length≤1:=by unfold H6;split<;>simp
theorem b8F (F:Nat)(c:u6)(docs:List A1)(n t:r4)(hc:Y6 c=true)(hd:X3 docs)(hF:200000<F):a2V F c docs n t=some (O5 c docs n t):=by
 have hfew:=hd.few
 unfold a2V
 have hfold:O5 c docs n t=docs.foldl (fun e d=>C0.mk e.Field e.Term (e.Posts++H6 c n t d)) (C0.mk n t []):=by
  have gen: ∀(l:List A1) (ps:List F7),l.foldl (fun e d=>C0.mk e.Field e.Term (e.Posts++H6 c n t d)) (C0.mk n t ps)=C0.mk n t (ps++l.flatMap (H6 c n t)):=by
   intro l
   induction l with
   | nil=>intro ps;simp
   | cons d r ih=>intro ps;rw [List.foldl_cons,ih,List.flatMap_cons,List.append_assoc]
  rw [gen];rfl
 rw [hfold]
 rw [(Y1 (xs:=docs) (fun e d=>C0.mk e.Field e.Term (e.Posts++H6 c n t d)) (fun i (e:C0)=>e.Posts.length≤i∧e.Field=n∧e.Term=t) id (fun e i=>(i,e)) (C0.mk n t []) rfl F (by omega) ⟨by simp,rfl,rfl⟩ (fun i d e hx ⟨he,e1,e2⟩=>?_) (fun a ha=>?_)).1]
 ·rfl
 ·have hi:=(i4.1 hx).1
  have hdd:=hd.doc d (n5 hx)
  have hp1:=b1W c n t d
  refine⟨?_,by simp only [o0];omega,e1,e2⟩
  simp only
  rw [b8 (by omega),j4,n8,hx,a8,c0W F c d n t hc hdd hF,a8,a8,y5 (by omega)]
  unfold H6
  by_cases h0:0<(U5 c d n t).length
  ·rw [b8 (by omega),j4,H4 (by simp only [l8];omega),a8,b8 h0,if_pos rfl]
  ·rw [c6 (by omega),i6,c6 h0,if_neg (by simp),List.append_nil]
 ·simp only
  rw [c6 (by omega)];rfl
theorem b47 {docs:List A1}(hd:X3 docs):(a0E docs).length≤10000:=(b4j 200001 docs hd (by omega)).2
theorem c2i {c:u6}{docs:List A1}{ns:List r4}: ∀(l:List r4) (es:List C0),l.foldl (fun s n=>(M9 c docs n).foldl (fun s t=>A5.mk s.Docs (s.Entries++[O5 c docs n t])) s) (A5.mk [] es)=A5.mk [] (es++l.flatMap fun n=>(M9 c docs n).map (O5 c docs n)):=by
 intro l
 induction l with
 | nil=>intro es;simp
 | cons n r ih=>
  intro es
  have inner: ∀(ts:List r4) (es:List C0),ts.foldl (fun s t=>A5.mk s.Docs (s.Entries++[O5 c docs n t])) (A5.mk [] es)=A5.mk [] (es++ts.map (O5 c docs n)):=by
   intro ts
   induction ts with
   | nil=>intro es;simp
   | cons t r ih=>intro es;rw [List.foldl_cons,ih,List.map_cons,List.append_assoc];rfl
  rw [List.foldl_cons,inner,ih,List.flatMap_cons,List.append_assoc]
theorem b9X {es:List C0}: ∀(l ds:List A1),l.foldl (fun s d=>A5.mk (s.Docs++[d]) s.Entries) (A5.mk ds es)=A5.mk (ds++l) es:=by
 intro l
 induction l with
 | nil=>intro ds;simp
 | cons d r ih=>intro ds;rw [List.foldl_cons,ih,List.append_assoc];rfl
theorem b7R (F:Nat)(c:u6)(docs:List A1)(hc:Y6 c=true)(hd:X3 docs)(hF:200000<F):a36 F c docs=some (a1F c docs):=by
 have hfew:=hd.few
 have hnl:=b47 hd
 unfold a36
 rw [(b4j F docs hd hF).1,a8]
 rw [(Y1 (xs:=a0E docs) (fun s n=>(M9 c docs n).foldl (fun s t=>A5.mk s.Docs (s.Entries++[O5 c docs n t])) s) (fun i (s:A5)=>s.Entries.length≤i*100000) id (fun e i=>(i,e)) (A5.mk [] []) rfl F (by omega) (by simp) (fun i n s hx hs=>?_) (fun a ha=>?_)).1]
 ·rw [c2i (ns:=[]),a8,a8]
  rw [(Y1 (xs:=docs) (fun s d=>A5.mk (s.Docs++[d]) s.Entries) (fun i (s:A5)=>s.Docs.length≤i) id (fun e i=>(i,e)) _ rfl F (by omega) (by simp) (fun i d s hx hs=>?_) (fun a ha=>?_)).1]
  ·rw [b9X,a8,a8];rfl
  ·have hi:=(i4.1 hx).1
   have hdd:=hd.doc d (n5 hx)
   have hf1:=hdd.fields
   have hf2:=hdd.nums
   refine⟨?_,by simp only [o0,l8];omega⟩
   simp only
   rw [b8 (by omega),j4,n8,hx,a8,b8D F d (by omega) (by omega),a8,H4 (by simp only [l8];omega),a8,y5 (by omega)]
  ·simp only
   rw [c6 (by omega)];rfl
 ·have hi:=(i4.1 hx).1
  have hft:=b3v c hd n
  have inner:=b0s (g:=fun s t=>A5.mk s.Docs (s.Entries++[O5 c docs n t])) (fun j (b:A5)=>b.Entries.length≤i*100000+j) (M9 c docs n) 0 s (by rw [Nat.add_zero];exact hs) (fun j t b _ hb=>by simp only [o0,l8];omega)
  refine⟨?_,by omega⟩
  simp only
  rw [b8 (by omega),j4,n8,hx,a8,b7M F c docs n hc hd hF,a8]
  rw [(Y1 (xs:=M9 c docs n) (fun s t=>A5.mk s.Docs (s.Entries++[O5 c docs n t])) (fun j (b:A5)=>b.Entries.length≤i*100000+j) id (fun e i=>(i,e)) s rfl F (by omega) (by rw [Nat.add_zero];exact hs) (fun j t b ht hb=>?_) (fun b hb=>?_)).1,a8,a8,y5 (by omega)]
  ·rfl
  ·have hj:=(i4.1 ht).1
   refine⟨?_,by simp only [o0,l8];omega⟩
   simp only
   rw [b8 (by omega),j4,a8,n8,ht,a8,b8F F c docs n t hc hd hF,a8,H4 (by simp only [l8];omega),a8,y5 (by omega)]
  ·simp only
   rw [c6 (by omega)];rfl
 ·simp only
  rw [c6 (by omega)];rfl
end Go.Fk
set_option linter.unusedVariables false
namespace Go.Fk
open Go
abbrev Occ:=(r4×r4)×(Int×Int)
def V9 (ps:List F7)(id:Int)(at_:Int):List F7:=
 match (if R0 ps id then ps++[F7.mk id []] else ps).getLast? with
 | none=>[]
 | some p=>(if R0 ps id then ps++[F7.mk id []] else ps).dropLast++[F7.mk p.Doc (p.At++[at_])]
def a64 (o:Occ):List C0→List C0
 | []=>[⟨o.1.1,o.1.2,V9 [] o.2.1 o.2.2⟩]
 | e::r=>if e.Field==o.1.1&&e.Term==o.1.2 then ⟨e.Field,e.Term,V9 e.Posts o.2.1 o.2.2⟩::r else e::a64 o r
def a4K (k:r4×r4):List (r4×r4)→List (r4×r4)
 | []=>[k]
 | x::r=>if x==k then x::r else x::a4K k r
def a0v (os:List Occ):List (r4×r4):=os.foldl (fun ks o=>a4K o.1 ks) []
def b24 (l:List (Int×Int)):List F7:=l.foldl (fun ps q=>V9 ps q.1 q.2) []
def mkE (os:List Occ)(k:r4×r4):C0:=⟨k.1,k.2,b24 ((os.filter fun o=>o.1==k).map (·.2))⟩
theorem a9Y {k x:r4×r4}: ∀{l:List (r4×r4)},x∈a4K k l↔x=k∨x∈l
 | []=>by simp [a4K]
 | a::l=>by
  unfold a4K
  split
  ·rename_i h
   have:=eq_of_beq h
   subst this
   rw [List.mem_cons]
   constructor
   ·rintro (h | h)<;>simp [h]
   ·rintro (h | h | h)<;>simp [h]
  ·rw [List.mem_cons,a9Y (l:=l),List.mem_cons]
   constructor
   ·rintro (h1 | h1 | h1)<;>simp [h1]
   ·rintro (h1 | h1 | h1)<;>simp [h1]
theorem b0a {k:r4×r4}: ∀{l:List (r4×r4)},l.Nodup→(a4K k l).Nodup
 | [],_=>by simp [a4K]
 | a::l,h=>by
  have hc:=List.nodup_cons.1 h
  unfold a4K
  split
  ·exact h
  ·rename_i hne
   refine List.nodup_cons.2 ⟨fun hm=>?_,b0a hc.2⟩
   rcases a9Y.1 hm with e | hm
   ·exact hne (by simp [e])
   ·exact hc.1 hm
theorem b3i {k:r4×r4}: ∀{l:List (r4×r4)},k∉l→a4K k l=l++[k]
 | [],_=>rfl
 | a::l,h=>by
  have h1:(a==k)=false:=beq_eq_false_iff_ne.2 fun e=>h (by simp [e])
  unfold a4K
  rw [h1,if_neg (by simp),b3i (l:=l) (fun hm=>h (by simp [hm]))];rfl
theorem b3j {k:r4×r4}: ∀{l:List (r4×r4)},k∈l→a4K k l=l
 | [],h=>by cases h
 | a::l,h=>by
  unfold a4K
  split
  ·rfl
  ·rename_i hne
   rcases List.mem_cons.1 h with e | h
   ·exact absurd (by simp [e]) hne
   ·rw [b3j h]
theorem a8m (os:List Occ)(o:Occ):a0v (os++[o])=a4K o.1 (a0v os):=by
 unfold a0v;rw [List.foldl_append];rfl
theorem b43: ∀(l pre:List Occ),((a0v pre).Nodup∧∀k,k∈a0v pre↔∃o∈pre,o.1=k)→(a0v (pre++l)).Nodup∧∀k,k∈a0v (pre++l)↔∃o∈pre++l,o.1=k
 | [],pre,h=>by rw [List.append_nil];exact h
 | o::l,pre,⟨h1,h2⟩=>by
  rw [show pre++o::l=(pre++[o])++l by simp]
  refine b43 l (pre++[o]) ⟨?_,fun k=>?_⟩
  ·rw [a8m];exact b0a h1
  ·rw [a8m,a9Y,h2]
   constructor
   ·rintro (rfl | ⟨q,hq,e⟩)
    ·exact⟨o,by simp,rfl⟩
    ·exact⟨q,by simp [hq],e⟩
   ·rintro⟨q,hq,e⟩
    rcases List.mem_append.1 hq with hq | hq
    ·exact .inr ⟨q,hq,e⟩
    ·rw [List.mem_singleton] at hq;subst hq;exact .inl e.symm
theorem b5M (os:List Occ):(a0v os).Nodup∧∀k,k∈a0v os↔∃o∈os,o.1=k:=by
 have:=b43 os [] ⟨List.nodup_nil,by simp [a0v]⟩
 simpa using this
theorem a8o (os:List Occ)(o:Occ)(k:r4×r4):mkE (os++[o]) k=if o.1==k then ⟨k.1,k.2,V9 (mkE os k).Posts o.2.1 o.2.2⟩ else mkE os k:=by
 unfold mkE
 rw [List.filter_append]
 cases h:o.1==k
 ·rw [List.filter_cons,h];simp
 ·rw [List.filter_cons,h];simp [b24,List.foldl_append]
theorem b9n {os:List Occ}{o:Occ}: ∀{ks:List (r4×r4)},ks.Nodup→o.1∈ks→a64 o (ks.map (mkE os))=ks.map (mkE (os++[o]))
 | [],_,h=>by cases h
 | k::ks,hn,h=>by
  have hc:=List.nodup_cons.1 hn
  have hpick:((mkE os k).Field==o.1.1&&(mkE os k).Term==o.1.2)=(k==o.1):=rfl
  rw [List.map_cons,List.map_cons,a64,hpick]
  by_cases he:k=o.1
  ·subst he
   rw [beq_self_eq_true,if_pos rfl,a8o,beq_self_eq_true,if_pos rfl]
   congr 1
   refine List.map_congr_left fun x hx=>?_
   have:(o.1==x)=false:=beq_eq_false_iff_ne.2 fun e=>hc.1 (e▸hx)
   rw [a8o,this,if_neg (by simp)]
  ·have h1:(k==o.1)=false:=beq_eq_false_iff_ne.2 he
   have h2:(o.1==k)=false:=beq_eq_false_iff_ne.2 fun e=>he e.symm
   rw [h1,if_neg (by simp),a8o,h2,if_neg (by simp)]
   congr 1
   rcases List.mem_cons.1 h with e | h
   ·exact absurd e.symm he
   ·exact b9n hc.2 h
theorem b9l {o:Occ}: ∀{es:List C0},(∀e∈es,(e.Field==o.1.1&&e.Term==o.1.2)=false)→a64 o es=es++[⟨o.1.1,o.1.2,V9 [] o.2.1 o.2.2⟩]
 | [],_=>rfl
 | e::es,h=>by
  rw [a64,h e (by simp),if_neg (by simp),b9l (fun e he=>h e (by simp [he]))];rfl
theorem c3o {os:List Occ}{o:Occ}{ks:List (r4×r4)}(h:o.1∉ks)(hos: ∀q∈os,q.1∈ks):a64 o (ks.map (mkE os))=(ks++[o.1]).map (mkE (os++[o])):=by
 rw [b9l (fun e he=>?_),List.map_append]
 ·congr 1
  ·refine List.map_congr_left fun x hx=>?_
   have:(o.1==x)=false:=beq_eq_false_iff_ne.2 fun e=>h (e▸hx)
   rw [a8o,this,if_neg (by simp)]
  ·rw [List.map_singleton,a8o,beq_self_eq_true,if_pos rfl]
   have:os.filter (fun q=>q.1==o.1)=[]:=List.filter_eq_nil_iff.2 fun q hq e=>h (by have:=eq_of_beq e;rw [←this];exact hos q hq)
   simp [mkE,this,b24]
 ·obtain⟨k,hk,rfl⟩:=List.mem_map.1 he
  show (k==o.1)=false
  exact beq_eq_false_iff_ne.2 fun e=>h (e▸hk)
theorem b7i: ∀(l pre:List Occ),l.foldl (fun es o=>a64 o es) ((a0v pre).map (mkE pre))=(a0v (pre++l)).map (mkE (pre++l))
 | [],pre=>by rw [List.append_nil];rfl
 | o::l,pre=>by
  have hk:=b5M pre
  have hst:a64 o ((a0v pre).map (mkE pre))=(a0v (pre++[o])).map (mkE (pre++[o])):=by
   rw [a8m]
   by_cases h:o.1∈a0v pre
   ·rw [b3j h,b9n hk.1 h]
   ·rw [b3i h,c3o h fun q hq=>(hk.2 _).2 ⟨q,hq,rfl⟩]
  rw [List.foldl_cons,hst,b7i l (pre++[o]),show pre++[o]++l=pre++o::l by simp]
theorem b7h (os:List Occ):os.foldl (fun es o=>a64 o es) []=(a0v os).map (mkE os):=by
 have:=b7i os []
 simpa [a0v] using this
end Go.Fk
set_option linter.unusedVariables false
namespace Go.Fk
open Go
theorem a5R (c:u6):G2 c []=[]:=by
 have h:=a4g c []
 exact List.eq_nil_of_length_eq_zero (by simp at h;simp [h])
theorem b3u {α:Type}(h:α→r4){x:r4}: ∀(l:List α) (a:List r4),x∈l.foldl (fun a y=>a5y (h y) a) a↔x∈a∨∃y∈l,h y=x
 | [],a=>by simp
 | y::r,a=>by
  rw [List.foldl_cons,b3u h r,b3G]
  constructor
  ·rintro ((rfl | h1) | ⟨z,hz,e⟩)
   ·exact .inr ⟨y,by simp,rfl⟩
   ·exact .inl h1
   ·exact .inr ⟨z,by simp [hz],e⟩
  ·rintro (h1 | ⟨z,hz,e⟩)
   ·exact .inl (.inr h1)
   ·rcases List.mem_cons.1 hz with rfl | hz
    ·exact .inl (.inl e.symm)
    ·exact .inr ⟨z,hz,e⟩
theorem a8b {α:Type}(h:α→r4): ∀(l:List α) (a:List r4),a7Z a→a7Z (l.foldl (fun a y=>a5y (h y) a) a)
 | [],a,ha=>ha
 | y::r,a,ha=>by rw [List.foldl_cons];exact a8b h r _ (b15 ha)
theorem b1r (n:r4): ∀(docs:List A1) (a:List r4),(a7Z a→a7Z (docs.foldl (fun a d=>d.Fields.foldl (fun a f=>a5y f.Name a) a) a))∧(n∈docs.foldl (fun a d=>d.Fields.foldl (fun a f=>a5y f.Name a) a) a↔n∈a∨∃d∈docs,∃f∈d.Fields,f.Name=n)
 | [],a=>by simp
 | d::r,a=>by
  have ih:=b1r n r (d.Fields.foldl (fun a f=>a5y f.Name a) a)
  rw [List.foldl_cons]
  refine⟨fun h=>ih.1 (a8b (fun f:Q6=>f.Name) _ _ h),?_⟩
  rw [ih.2,b3u (fun f:Q6=>f.Name)]
  constructor
  ·rintro ((h | h) | ⟨e,he,h⟩)
   ·exact .inl h
   ·exact .inr ⟨d,by simp,h⟩
   ·exact .inr ⟨e,by simp [he],h⟩
  ·rintro (h | ⟨e,he,h⟩)
   ·exact .inl (.inl h)
   ·rcases List.mem_cons.1 he with rfl | he
    ·exact .inl (.inr h)
    ·exact .inr ⟨e,he,h⟩
theorem a87 {docs:List A1}{n:r4}:n∈a0E docs↔∃d∈docs,∃f∈d.Fields,f.Name=n:=by
 have:=(b1r n docs []).2
 simpa [a0E] using this
theorem a7r (docs:List A1):a7Z (a0E docs):=(b1r [] docs []).1 List.Pairwise.nil
theorem a9U (c:u6)(n t:r4): ∀(docs:List A1) (a:List r4),(a7Z a→a7Z (docs.foldl (fun a d=>a9K a (G2 c (H7 d n))) a))∧(t∈docs.foldl (fun a d=>a9K a (G2 c (H7 d n))) a↔t∈a∨∃d∈docs,∃x∈G2 c (H7 d n),x.Text=t)
 | [],a=>by simp
 | d::r,a=>by
  have ih:=a9U c n t r (a9K a (G2 c (H7 d n)))
  rw [List.foldl_cons]
  refine⟨fun h=>ih.1 (a8b (fun x:D3=>x.Text) _ _ h),?_⟩
  rw [ih.2]
  unfold a9K
  rw [b3u (fun x:D3=>x.Text)]
  constructor
  ·rintro ((h | h) | ⟨e,he,h⟩)
   ·exact .inl h
   ·exact .inr ⟨d,by simp,h⟩
   ·exact .inr ⟨e,by simp [he],h⟩
  ·rintro (h | ⟨e,he,h⟩)
   ·exact .inl (.inl h)
   ·rcases List.mem_cons.1 he with rfl | he
    ·exact .inl (.inr h)
    ·exact .inr ⟨e,he,h⟩
theorem a4S {c:u6}{docs:List A1}{n t:r4}:t∈M9 c docs n↔∃d∈docs,∃x∈G2 c (H7 d n),x.Text=t:=by
 have:=(a9U c n t docs []).2
 simpa [M9] using this
theorem a6z (c:u6)(docs:List A1)(n:r4):a7Z (M9 c docs n):=(a9U c n [] docs []).1 List.Pairwise.nil
theorem b1T {ps:List F7}{id a:Int}(h:R0 ps id=true):V9 ps id a=ps++[F7.mk id [a]]:=by
 unfold V9
 rw [h];simp
theorem b5z {ps:List F7}{id a:Int}{as':List Int}:V9 (ps++[F7.mk id as']) id a=ps++[F7.mk id (as'++[a])]:=by
 have:R0 (ps++[F7.mk id as']) id=false:=by simp [R0]
 unfold V9
 rw [this];simp
theorem b5c {ps:List F7}{id:Int}: ∀(l as':List Int),(l.map fun a=>(id,a)).foldl (fun ps q=>V9 ps q.1 q.2) (ps++[F7.mk id as'])=ps++[F7.mk id (as'++l)]
 | [],as'=>by simp
 | a::l,as'=>by rw [List.map_cons,List.foldl_cons,b5z,b5c l,List.append_assoc];rfl
theorem b8w {ps:List F7}{id:Int}{l:List Int}(h:R0 ps id=true):(l.map fun a=>(id,a)).foldl (fun ps q=>V9 ps q.1 q.2) ps=ps++(if decide (0<l.length) then [F7.mk id l] else []):=by
 cases l with
 | nil=>simp
 | cons a l=>rw [List.map_cons,List.foldl_cons,b1T h,b5c];simp
theorem c3g {ps:List F7}{id:Int}(h: ∀p∈ps,p.Doc≠id):R0 ps id=true:=by
 unfold R0
 split
 ·rfl
 ·rename_i p hp
  have:=h p (List.mem_of_getLast? hp)
  simp [this]
theorem b32 (c:u6)(n t:r4): ∀(docs:List A1) (ps:List F7),(docs.Pairwise fun a b=>a.Id<b.Id)→(∀p∈ps,∀d∈docs,p.Doc<d.Id)→
  (docs.flatMap fun d=>(U5 c d n t).map fun a=>(d.Id,a)).foldl (fun ps q=>V9 ps q.1 q.2) ps=ps++docs.flatMap (H6 c n t)
 | [],ps,_,_=>by simp
 | d::r,ps,hd,hp=>by
  have hc:=List.pairwise_cons.1 hd
  rw [List.flatMap_cons,List.flatMap_cons,List.foldl_append,b8w (c3g fun p hm=>by have:=hp p hm d (by simp);omega),b32 c n t r _ hc.2 (fun p hm e he=>?_),List.append_assoc]
  ·rfl
  ·rcases List.mem_append.1 hm with hm | hm
   ·exact hp p hm e (by simp [he])
   ·split at hm
    ·rw [List.mem_singleton] at hm;subst hm;exact hc.1 e he
    ·cases hm
def a3R (c:u6)(id:Int)(f:Q6):List Occ:=(G2 c f.Text).map fun x=>((f.Name,x.Text),(id,x.At))
def a7l (c:u6)(d:A1):List Occ:=d.Fields.flatMap (a3R c d.Id)
def a5A (c:u6)(docs:List A1):List Occ:=docs.flatMap (a7l c)
theorem c0x (c:u6)(id:Int)(f:Q6)(n t:r4):((a3R c id f).filter fun o=>o.1==(n,t)).map (·.2)=if f.Name==n then ((G2 c f.Text).flatMap fun x=>if x.Text==t then [x.At] else []).map fun a=>(id,a) else []:=by
 unfold a3R
 generalize G2 c f.Text=l
 have hk: ∀x:D3,(((f.Name,x.Text):r4×r4)==(n,t))=(f.Name==n&&x.Text==t):=fun _=>rfl
 cases h:f.Name==n
 ·rw [if_neg (by simp),List.filter_eq_nil_iff.2 fun o ho e=>?_]
  ·rfl
  ·obtain⟨x,_,rfl⟩:=List.mem_map.1 ho
   have e':=(hk x).symm.trans e
   rw [h] at e';cases e'
 ·rw [if_pos rfl]
  induction l with
  | nil=>rfl
  | cons x r ih=>
   rw [List.map_cons,List.filter_cons,List.flatMap_cons,hk,h,u5,List.map_append,←ih]
   cases x.Text==t<;>rfl
theorem b3H (c:u6)(id:Int)(n t:r4): ∀(l:List Q6),(l.Pairwise fun f g=>f.Name≠g.Name)→(((l.flatMap (a3R c id)).filter fun o=>o.1==(n,t)).map (·.2))=((G2 c ((l.find? fun f=>f.Name==n).elim [] (·.Text))).flatMap fun x=>if x.Text==t then [x.At] else []).map fun a=>(id,a)
 | [],_=>by simp [a5R]
 | f::r,h=>by
  have hc:=List.pairwise_cons.1 h
  have ih:=b3H c id n t r hc.2
  rw [List.flatMap_cons,List.filter_append,List.map_append,c0x,List.find?_cons]
  cases hn:f.Name==n
  ·rw [if_neg (by simp),List.nil_append,ih]
  ·have he:=eq_of_beq hn
   have hnone:r.find? (fun g=>g.Name==n)=none:=List.find?_eq_none.2 fun g hg e=>hc.1 g hg (he.trans (eq_of_beq e).symm)
   rw [if_pos rfl,ih,hnone]
   simp [a5R]
theorem b9c (c:u6)(n t:r4): ∀(docs:List A1),(∀d∈docs,d.Fields.Pairwise fun f g=>f.Name≠g.Name)→((a5A c docs).filter fun o=>o.1==(n,t)).map (·.2)=docs.flatMap fun d=>(U5 c d n t).map fun a=>(d.Id,a)
 | [],_=>by simp [a5A]
 | d::r,h=>by
  have ih:=b9c c n t r fun e he=>h e (by simp [he])
  unfold a5A at ih ⊢
  rw [List.flatMap_cons,List.filter_append,List.map_append,ih,List.flatMap_cons]
  congr 1
  exact b3H c d.Id n t d.Fields (h d (by simp))
structure a99 (docs:List A1):Prop where
 ids:docs.Pairwise fun a b=>a.Id<b.Id
 names: ∀d∈docs,d.Fields.Pairwise fun f g=>f.Name≠g.Name
theorem b45 {c:u6}{docs:List A1}(h:a99 docs)(n t:r4):mkE (a5A c docs) (n,t)=O5 c docs n t:=by
 unfold mkE O5 b24
 rw [b9c c n t docs h.names]
 have:=b32 c n t docs [] h.ids (by simp)
 rw [List.nil_append] at this
 simp only [this]
theorem b3F {c:u6}{d:A1}{o:Occ}:o∈a7l c d↔∃f∈d.Fields,∃x∈G2 c f.Text,o=((f.Name,x.Text),(d.Id,x.At)):=by
 unfold a7l a3R
 simp only [List.mem_flatMap,List.mem_map,eq_comm]
theorem c1M {d:A1}(h:d.Fields.Pairwise fun f g=>f.Name≠g.Name){f:Q6}(hf:f∈d.Fields):H7 d f.Name=f.Text:=by
 have gen: ∀l:List Q6,(l.Pairwise fun f g=>f.Name≠g.Name)→f∈l→(l.find? fun g=>g.Name==f.Name).elim [] (·.Text)=f.Text:=by
  intro l
  induction l with
  | nil=>intro _ h;cases h
  | cons g r ih=>
   intro hp hm
   have hc:=List.pairwise_cons.1 hp
   rw [List.find?_cons]
   rcases List.mem_cons.1 hm with rfl | hm
   ·rw [beq_self_eq_true];rfl
   ·have:(g.Name==f.Name)=false:=beq_eq_false_iff_ne.2 (hc.1 f hm)
    rw [this];exact ih hc.2 hm
 exact gen d.Fields h hf
theorem b65 {c:u6}{docs:List A1}(h:a99 docs)(e:C0):e∈(a1F c docs).Entries↔e∈(a0v (a5A c docs)).map (mkE (a5A c docs)):=by
 unfold a1F
 rw [List.mem_flatMap,List.mem_map]
 have hk:=(b5M (a5A c docs)).2
 constructor
 ·rintro⟨n,hn,hm⟩
  obtain⟨t,ht,rfl⟩:=List.mem_map.1 hm
  refine⟨(n,t),(hk _).2 ?_,b45 h n t⟩
  obtain⟨d,hd,x,hx,rfl⟩:=a4S.1 ht
  unfold H7 at hx
  cases hf:d.Fields.find? fun f=>f.Name==n with
  | none=>
   rw [hf] at hx
   rw [Option.elim_none,a5R] at hx;cases hx
  | some f=>
   rw [hf] at hx
   have hfn:=List.find?_some hf
   exact⟨((f.Name,x.Text),(d.Id,x.At)),List.mem_flatMap.2 ⟨d,hd,b3F.2 ⟨f,List.mem_of_find?_eq_some hf,x,hx,rfl⟩⟩,by rw [eq_of_beq hfn]⟩
 ·rintro⟨⟨n,t⟩,hkm,rfl⟩
  obtain⟨o,ho,hok⟩:=(hk _).1 hkm
  obtain⟨d,hd,hod⟩:=List.mem_flatMap.1 ho
  obtain⟨f,hf,x,hx,rfl⟩:=b3F.1 hod
  cases hok
  refine⟨f.Name,a87.2 ⟨d,hd,f,hf,rfl⟩,List.mem_map.2 ⟨x.Text,a4S.2 ⟨d,hd,x,?_,rfl⟩,(b45 h _ _).symm⟩⟩
  rw [c1M (h.names d hd) hf];exact hx
def ltE (a b:C0):Bool:=D2 a.Field b.Field||(a.Field==b.Field&&D2 a.Term b.Term)
theorem a5I (a b:C0):ltE a b=true↔D2 a.Field b.Field=true∨(a.Field=b.Field∧D2 a.Term b.Term=true):=by simp [ltE]
theorem b5S (a:C0):ltE a a=false:=by
 rw [Bool.eq_false_iff];intro h
 rcases (a5I a a).1 h with h | ⟨_,h⟩
 ·rw [a2u] at h;cases h
 ·rw [a2u] at h;cases h
theorem c4W {a b c:C0}(h:ltE a b=true)(h':ltE b c=true):ltE a c=true:=by
 rw [a5I] at h h' ⊢
 rcases h with h | ⟨e,h⟩
 ·rcases h' with h' | ⟨e',h'⟩
  ·exact .inl (a7b h h')
  ·exact .inl (e'▸h)
 ·rcases h' with h' | ⟨e',h'⟩
  ·exact .inl (e▸h')
  ·exact .inr ⟨e.trans e',a7b h h'⟩
theorem c4U {a b c:C0}(h:ltE a c=true):ltE a b=true∨ltE b c=true:=by
 rw [a5I] at h ⊢
 rw [a5I]
 rcases h with h | ⟨e,h⟩
 ·rcases c2l (b:=b.Field) h with h1 | h1
  ·exact .inl (.inl h1)
  ·exact .inr (.inl h1)
 ·by_cases e1:a.Field=b.Field
  ·rcases c2l (b:=b.Term) h with h1 | h1
   ·exact .inl (.inr ⟨e1,h1⟩)
   ·exact .inr (.inr ⟨e1▸e,h1⟩)
  ·rcases b7F e1 with h1 | h1
   ·exact .inl (.inl h1)
   ·exact .inr (.inl (e▸h1))
theorem c4V {a b:C0}(h:(a.Field,a.Term)≠(b.Field,b.Term)):ltE a b=true∨ltE b a=true:=by
 rw [a5I,a5I]
 by_cases e:a.Field=b.Field
 ·have:a.Term≠b.Term:=fun e'=>h (by rw [e,e'])
  rcases b7F this with h1 | h1
  ·exact .inl (.inr ⟨e,h1⟩)
  ·exact .inr (.inr ⟨e.symm,h1⟩)
 ·rcases b7F e with h1 | h1
  ·exact .inl (.inl h1)
  ·exact .inr (.inl h1)
theorem b2g (c:u6)(docs:List A1):(a1F c docs).Entries.Pairwise fun a b=>ltE a b=true:=by
 unfold a1F
 refine List.pairwise_flatMap.2 ⟨fun n _=>?_,?_⟩
 ·exact List.pairwise_map.2 (List.Pairwise.imp (R:=fun a b=>D2 a b=true) (fun {a b} h=>(a5I (O5 c docs n a) (O5 c docs n b)).2 (.inr ⟨rfl,h⟩)) (a6z c docs n))
 ·refine(a7r docs).imp fun {a b} h x hx y hy=>?_
  obtain⟨t,_,rfl⟩:=List.mem_map.1 hx
  obtain⟨u,_,rfl⟩:=List.mem_map.1 hy
  exact(a5I _ _).2 (.inl h)
theorem b3C (os:List Occ):((a0v os).map (mkE os)).Pairwise fun a b=>ltE a b=true∨ltE b a=true:=
 List.pairwise_map.2 (List.Pairwise.imp (R:=fun a b=>a≠b) (fun {a b} h=>c4V (a:=mkE os a) (b:=mkE os b) h) (b5M os).1)
def b4y (x y:r4):Int:=if D2 x y then -1 else if !(D2 x y||x==y) then 1 else 0
theorem b80 (F:Nat)(x y:r4):S4 F x y=some (b4y x y):=by
 have hn: ∀s,U7 F s=some false:=fun s=>by unfold U7;simp
 unfold S4 b4y
 rw [hn,hn,a8,a8,i6,i6,T6,T6]
 cases D2 x y
 ·cases x==y<;>rfl
 ·rfl
end Go.Fk
set_option linter.unusedVariables false
namespace Go.Fk
open Go
theorem c40 (F:Nat)(a b:Int):a0L F [a,b]=some (if a=0 then b else a):=by
 unfold a0L
 simp only [s6,List.length_nil,D1]
 have g0:v8 [a,b] ((0:Nat):Int)=some a:=rfl
 have g1:v8 [a,b] ((0+1:Nat):Int)=some b:=rfl
 rw [g0]
 by_cases h:a=0
 ·subst h
  simp only [a8,beq_self_eq_true,l7,i6,Sum.elim_inl]
  rw [g1]
  by_cases hb:b=0
  ·subst hb;rfl
  ·rw [a8,beq_eq_false_iff_ne.2 hb];rfl
 ·rw [a8,beq_eq_false_iff_ne.2 h,if_neg h];rfl
def c41 (a b:C0):Int:=if b4y a.Field b.Field=0 then b4y a.Term b.Term else b4y a.Field b.Field
theorem b9g (F:Nat)(a b:C0):W3 F a b=some (c41 a b):=by
 unfold W3
 rw [b80,a8,b80,a8,c40];rfl
theorem b6q (x y:r4):b4y x y<0↔D2 x y=true:=by
 unfold b4y
 cases D2 x y
 ·cases x==y<;>simp
 ·simp
theorem b4O (x y:r4):b4y x y=0↔x=y:=by
 unfold b4y
 cases h:D2 x y
 ·cases h2:x==y
  ·have:=beq_eq_false_iff_ne.1 h2
   simp [this]
  ·have:=eq_of_beq h2
   simp [this]
 ·rw [if_pos rfl]
  refine⟨fun e=>by omega,fun e=>?_⟩
  subst e;rw [a2u] at h;cases h
theorem c3m (F:Nat)(a b:C0):ltO (fun a b=>W3 F a b) a b=ltE a b:=by
 show decide ((W3 F a b).getD 0<0)=_
 rw [b9g]
 show decide (c41 a b<0)=_
 rw [Bool.eq_iff_iff,decide_eq_true_iff,a5I]
 unfold c41
 by_cases h:b4y a.Field b.Field=0
 ·rw [if_pos h,b6q]
  have e:=(b4O _ _).1 h
  rw [e,a2u];simp
 ·rw [if_neg h,b6q]
  have e:a.Field≠b.Field:=fun e=>h ((b4O _ _).2 e)
  simp [e]
def a6k (B:Nat)(es:List C0):Prop:=es.length≤B∧∀e∈es,e.Posts.length≤B∧∀p∈e.Posts,p.At.length≤B
theorem b0b {B:Nat}{ps:List F7}{id a:Int}(h:ps.length≤B∧∀p∈ps,p.At.length≤B):(V9 ps id a).length≤B+1∧∀p∈V9 ps id a,p.At.length≤B+1:=by
 obtain⟨h1,h2⟩:=h
 cases hn:R0 ps id
 ·rcases List.eq_nil_or_concat ps with rfl | ⟨qs,p,rfl⟩
  ·simp [R0] at hn
  ·have e:V9 (qs.concat p) id a=qs++[F7.mk p.Doc (p.At++[a])]:=by
    unfold V9;rw [hn];simp
   rw [e]
   simp only [List.concat_eq_append,o0,l8] at h1 h2 ⊢
   refine⟨by omega,fun q hq=>?_⟩
   rcases List.mem_append.1 hq with hq | hq
   ·have:=h2 q (by simp [hq]);omega
   ·rw [List.mem_singleton] at hq;subst hq
    have:=h2 p (by simp)
    simp only [o0,l8];omega
 ·rw [b1T hn]
  refine⟨by simp only [o0,l8];omega,fun q hq=>?_⟩
  rcases List.mem_append.1 hq with hq | hq
  ·have:=h2 q hq;omega
  ·rw [List.mem_singleton] at hq;subst hq;simp
theorem c18 {B:Nat}{o:Occ}: ∀{es:List C0},a6k B es→a6k (B+1) (a64 o es):=by
 intro es h
 have hl: ∀es:List C0,(a64 o es).length≤es.length+1:=by
  intro es
  induction es with
  | nil=>simp [a64]
  | cons e r ih=>unfold a64;split<;>simp only [s6]<;>omega
 refine⟨by have:=hl es;have:=h.1;omega,?_⟩
 have gen: ∀es:List C0,(∀e∈es,e.Posts.length≤B∧∀p∈e.Posts,p.At.length≤B)→∀e∈a64 o es,e.Posts.length≤B+1∧∀p∈e.Posts,p.At.length≤B+1:=by
  intro es
  induction es with
  | nil=>
   intro _ e he
   rw [a64,List.mem_singleton] at he;subst he
   exact b0b (B:=B) (ps:=[]) ⟨Nat.zero_le _,fun p hp=>by cases hp⟩
  | cons x r ih=>
   intro hx e he
   unfold a64 at he
   split at he
   ·rcases List.mem_cons.1 he with rfl | he
    ·exact b0b (hx x (by simp))
    ·have:=hx e (by simp [he]);exact⟨by omega,fun p hp=>by have:=this.2 p hp;omega⟩
   ·rcases List.mem_cons.1 he with rfl | he
    ·have:=hx e (by simp);exact⟨by omega,fun p hp=>by have:=this.2 p hp;omega⟩
    ·exact ih (fun y hy=>hx y (by simp [hy])) e he
 exact gen es h.2
def a5H (n t:r4)(e:C0):Bool:=e.Field==n&&e.Term==t
theorem b9m (o:Occ): ∀es:List C0,a64 o es=match es.findIdx? (a5H o.1.1 o.1.2) with
  | none=>es++[⟨o.1.1,o.1.2,V9 [] o.2.1 o.2.2⟩]
  | some j=>(es[j]?).elim es fun e=>es.set j ⟨e.Field,e.Term,V9 e.Posts o.2.1 o.2.2⟩
 | []=>rfl
 | e::r=>by
  have ih:=b9m o r
  rw [a64,List.findIdx?_cons]
  have hk:a5H o.1.1 o.1.2 e=(e.Field==o.1.1&&e.Term==o.1.2):=rfl
  rw [hk,T6,T6]
  cases (e.Field==o.1.1&&e.Term==o.1.2)
  ·simp only [i6]
   rw [ih]
   cases r.findIdx? (a5H o.1.1 o.1.2) with
   | none=>rfl
   | some j=>
    simp only [Option.map_some,List.getElem?_cons_succ]
    cases r[j]? <;>rfl
  ·rfl
theorem b8g (F:Nat)(es:List C0)(n:r4)(t:D3):G5 F es n t=some ((es.findIdx? (a5H n t.Text)).elim (-1:Int) fun j=>(j:Int)):=by
 unfold G5
 rw [b6P (a5H n t.Text) (fun i x hx=>?_)]
 ·cases es.findIdx? (a5H n t.Text)<;>rfl
 ·rw [n8,hx,a8]
  unfold a3g
  have:(cond (x.Field==n) (some (x.Term==t.Text)) (some false):Option Bool)=some (a5H n t.Text x):=by
   unfold a5H;cases x.Field==n<;>rfl
  rw [this,a8,T6]
  cases a5H n t.Text x<;>rfl
theorem c1U (F B:Nat)(docs:List A1)(es:List C0)(n:r4)(t:D3)(id:Int)(h:a6k B es)(hB:B≤1000000):a2H F ⟨docs,es⟩ n t id=some ⟨docs,a64 ((n,t.Text),(id,t.At)) es⟩:=by
 have h1:=h.1
 have hpost: ∀ps:List F7,(ps.length≤B∧∀p∈ps,p.At.length≤B)→∃p at_,(cond (R0 ps id) (O2 32 ps [F7.mk id []]) (some ps))=some (if R0 ps id then ps++[F7.mk id []] else ps)∧(if R0 ps id then ps++[F7.mk id []] else ps).getLast?=some p∧
   O2 8 p.At [t.At]=some at_∧V9 ps id t.At=(if R0 ps id then ps++[F7.mk id []] else ps).dropLast++[F7.mk p.Doc at_]:=fun ps ⟨g1,g2⟩=>by
  cases hn:R0 ps id
  ·rcases List.eq_nil_or_concat ps with rfl | ⟨qs,p,rfl⟩
   ·simp [R0] at hn
   ·have:=g2 p (by simp)
    refine⟨p,p.At++[t.At],rfl,by simp,H4 (by simp only [l8];omega),?_⟩
    unfold V9;rw [hn];simp
  ·refine⟨F7.mk id [],[t.At],?_,by simp,H4 (by simp),?_⟩
   ·rw [j4,H4 (by simp only [l8];omega)];rfl
   ·unfold V9;rw [hn];simp
 unfold a2H
 rw [b8g,a8,b9m]
 cases hf:es.findIdx? (a5H n t.Text) with
 | none=>
  obtain⟨p,at_,e1,e2,e3,e4⟩:=hpost [] ⟨by simp,by simp⟩
  rw [show (Option.elim (none:Option Nat) (-1:Int) fun j=>(j:Int))= -1 from rfl]
  rw [b8 (by decide),j4,j4]
  dsimp only
  rw [H4 (by simp only [l8];omega),a8,n8,List.getElem?_append_right (Nat.le_refl _),Nat.sub_self]
  simp only [List.getElem?_cons_zero,a8]
  rw [e1,a8,e2,a8,e3,a8,←e4]
  simp
 | some j=>
  have hj:=(List.findIdx?_eq_some_iff_getElem.1 hf).1
  have hfit:=h.2 es[j] (List.getElem_mem hj)
  obtain⟨p,at_,e1,e2,e3,e4⟩:=hpost es[j].Posts hfit
  rw [show (Option.elim (some j) (-1:Int) fun j=>(j:Int))=(j:Int) from rfl]
  rw [c6 (by omega),i6,i6]
  dsimp only
  rw [a8,n8,j8 hj,a8,e1,a8,e2,a8,e3,a8,←e4]
  rfl
end Go.Fk
set_option linter.unusedVariables false
namespace Go.Fk
open Go
theorem b6m {α:Type}{lt:α→α→Bool}(tr: ∀{a b c},lt a b=true→lt b c=true→lt a c=true): ∀l:List α,(∀i,(hi:i+1<l.length)→lt l[i] l[i+1]=true)→l.Pairwise fun a b=>lt a b=true
 | [],_=>List.Pairwise.nil
 | a::l,hl=>by
  have ih':=b6m (lt:=lt) tr l (fun i hi=>by have:=hl (i+1) (by simp only [s6];omega);simpa using this)
  refine List.pairwise_cons.2 ⟨fun c hc=>?_,ih'⟩
  cases l with
  | nil=>cases hc
  | cons b l=>
   have hab:lt a b=true:=hl 0 (by simp)
   rcases List.mem_cons.1 hc with rfl | hc
   ·exact hab
   ·exact tr hab ((List.pairwise_cons.1 ih').1 c hc)
theorem a5T {d:A1}(h:a5q d=true):(a3x a5G a5b d.Fields=true∧a3x a7j a74 d.Nums=true)∧d.Fields.length≤3∧d.Nums.length≤3:=by
 unfold a5q at h
 simp only [q8,decide_eq_true_iff] at h
 exact⟨h.1,by omega,by omega⟩
theorem b04 {s:r4}(h:a2n s=true):s.length≤160:=by
 unfold a2n at h
 simp only [q8,decide_eq_true_iff] at h
 omega
theorem a8Z {d:A1}(h:a5q d=true){f:Q6}(hf:f∈d.Fields):D0 f.Name=true∧a2n f.Text=true:=by
 have:=(a59 (a5T h).1.1).1 f hf
 unfold a5G at this
 simpa using this
theorem c2V {d:A1}(h:a5q d=true):a7X d:=by
 obtain⟨⟨h1,h2⟩,h3,h4⟩:=a5T h
 refine⟨by omega,by omega,fun f hf=>?_,fun a ha=>?_⟩
 ·obtain⟨k1,k2⟩:=a8Z h hf
  have:=b04 k2
  have:=O4 k1
  omega
 ·have:=(a59 h2).1 a ha
  unfold a7j at this
  simp only [q8] at this
  have:=O4 this.1
  omega
theorem b9W {d:A1}(h:a5q d=true):d.Fields.Pairwise fun f g=>f.Name≠g.Name:=by
 have h1:=b6m (lt:=a5b) (fun {a b c} k1 k2=>a7b k1 k2) d.Fields (a59 (a5T h).1.1).2
 refine h1.imp fun {a b} k e=>?_
 unfold a5b at k
 rw [e,a2u] at k;cases k
theorem a4s {docs:List A1}(h:a1I docs=true):docs.length≤16∧∀d∈docs,a5q d=true:=by
 unfold a1I at h
 rw [q8,decide_eq_true_iff] at h
 exact⟨by omega,(a59 h.1).1⟩
theorem b6E {docs:List A1}(h:a1I docs=true):X3 docs:=⟨by have:=(a4s h).1;omega,fun d hd=>c2V ((a4s h).2 d hd)⟩
theorem b1i {docs:List A1}(h:a1I docs=true):a99 docs:=⟨(a0Q h).2.2,fun d hd=>b9W ((a4s h).2 d hd)⟩
theorem a6R {α σ:Type}{xs:List α}{g:σ→α→σ}{I:Nat→σ→Prop}{f:Nat→σ→Option σ}(h: ∀i x s,xs[i]? =some x→I i s→f i s=some (g s x)∧I (i+1) (g s x)): ∀k i s,i+k=xs.length→I i s→a0C f k i s=some ((xs.drop i).foldl g s)
 | 0,i,s,e,_=>by rw [a0C,List.drop_of_length_le (by omega)];rfl
 | k+1,i,s,e,hI=>by
  have hi:i<xs.length:=by omega
  obtain⟨h1,h2⟩:=h i xs[i] s (j8 hi) hI
  rw [a0C,h1,List.drop_eq_getElem_cons hi,a8,List.foldl_cons]
  exact a6R h k (i+1) _ (by omega) h2
theorem a6y {α σ:Type}{xs:List α}(g:σ→α→σ)(I:Nat→σ→Prop){f:Nat→σ→Option σ}(s:σ)(hI:I 0 s)(h: ∀i x s,xs[i]? =some x→I i s→f i s=some (g s x)∧I (i+1) (g s x)):a0C f xs.length 0 s=some (xs.foldl g s):=by
 have:=a6R h xs.length 0 s (by omega) hI
 rwa [List.drop_zero] at this
def a6b (es:List C0)(os:List Occ):List C0:=os.foldl (fun es o=>a64 o es) es
theorem a4c {B:Nat}: ∀(os:List Occ) {es:List C0},a6k B es→a6k (B+os.length) (a6b es os)
 | [],es,h=>h
 | o::os,es,h=>by
  have:=a4c os (c18 (o:=o) h)
  rw [s6,show B+(os.length+1)=B+1+os.length by omega]
  exact this
theorem a6k.le {B B':Nat}{es:List C0}(h:a6k B es)(hle:B≤B'):a6k B' es:=
 ⟨Nat.le_trans h.1 hle,fun e he=>⟨Nat.le_trans (h.2 e he).1 hle,fun p hp=>Nat.le_trans ((h.2 e he).2 p hp) hle⟩⟩
theorem a6u {α:Type}(h:α→List Occ)(docs:List A1): ∀(l:List α) (es:List C0),l.foldl (fun s x=>A5.mk s.Docs (a6b s.Entries (h x))) (A5.mk docs es)=A5.mk docs (a6b es (l.flatMap h))
 | [],es=>rfl
 | x::l,es=>by
  rw [List.foldl_cons,a6u h docs l,List.flatMap_cons]
  unfold a6b
  rw [List.foldl_append]
theorem b6Q (F:Nat)(docs:List A1)(h:X3 docs):a1j F docs=some docs:=by
 have hfew:=h.few
 unfold a1j
 rw [a7o (fun d:A1=>[d]) 1000 (fun i d acc hx hB=>?_) [] (by simp;omega)]
 ·simp
 ·have hdd:=h.doc d (n5 hx)
  have h1:=hdd.fields
  have h2:=hdd.nums
  rw [n8,hx,a8,b3y F d (by omega) (by omega),a8,H4 (by simp at hB ⊢;omega)];rfl
theorem b9e {c:u6}{id:Int}{f:Q6}(h:a2n f.Text=true):(a3R c id f).length≤160:=by
 have:=a4g c f.Text
 have:=b04 h
 unfold a3R
 rw [List.length_map];omega
theorem a9P {c:u6}{d:A1}(h:a5q d=true):(a7l c d).length≤480:=by
 have h1:=Z4 (g:=a3R c d.Id) (m:=160) d.Fields fun f hf=>b9e (a8Z h hf).2
 have h2:=(a5T h).2.1
 have:d.Fields.length*160≤480:=by omega
 unfold a7l;omega
def c2h (c:u6)(docs:List A1):A5:=if Y6 c&&a1I docs then a1F c docs else ⟨[],[]⟩
theorem b8j (F:Nat)(c:u6)(docs:List A1)(hd:docs.length<9000000000000000000)(hc:c.Stops.length≤2000000)(hF:1000<F):a4k F c docs=some (c2h c docs):=by
 unfold a4k c2h
 rw [b1m F c hc (by omega),a8]
 cases hcs:Y6 c
 ·rfl
 rw [l7,i6,b4Z F docs hd,a8,a8,u5]
 cases hds:a1I docs
 ·rfl
 have hall:=a4s hds
 rw [l7,i6,if_pos rfl,b6Q F docs (b6E hds),a8]
 rw [a6y (xs:=docs) (fun s d=>A5.mk s.Docs (a6b s.Entries (a7l c d))) (fun i s=>s.Docs=docs∧a6k (i*480) s.Entries) ⟨docs,[]⟩ ⟨rfl,by simp [a6k]⟩ (fun i d s hx ⟨e,hs⟩=>?_)]
 ·rw [a6u,a8,a8]
  have hocc:docs.flatMap (a7l c)=a5A c docs:=rfl
  have hfin:a6k 7680 (a6b [] (a5A c docs)):=by
   have hl:=Z4 (g:=a7l c) (m:=480) docs fun d hd=>a9P (hall.2 d hd)
   have hl2:=hall.1
   have:=a4c (B:=0) (a5A c docs) (es:=[]) (by simp [a6k])
   exact this.le (by unfold a5A;omega)
  rw [hocc]
  have hput:a6b [] (a5A c docs)=(a0v (a5A c docs)).map (mkE (a5A c docs)):=b7h _
  rw [c2n (t:=(a1F c docs).Entries) (c3m F) (fun a b=>by rw [b9g];rfl) b5S c4W c4U (by rw [hput];exact b3C _) (b2g c docs) (fun x=>by rw [hput];exact b65 (b1i hds) x) (by have:=hfin.1;show (a6b [] (a5A c docs)).length≤_;omega),a8]
  rfl
 ·have hdi:=hall.2 d (n5 hx)
  have hi:=(i4.1 hx).1
  have h16:=hall.1
  have h3:=(a5T hdi).2.1
  have hol:=a9P (c:=c) hdi
  refine⟨?_,e,(a4c _ hs).le (by omega)⟩
  obtain⟨sd,se⟩:=s
  dsimp only at e hs ⊢
  subst e
  rw [n8,hx,a8]
  rw [a6y (xs:=d.Fields) (fun s f=>A5.mk s.Docs (a6b s.Entries (a3R c d.Id f))) (fun j s=>s.Docs=sd∧a6k (i*480+j*160) s.Entries) ⟨sd,se⟩ (by rw [Nat.zero_mul,Nat.add_zero];exact⟨rfl,hs⟩) (fun j f s hf ⟨e,hs⟩=>?_)]
  ·rw [a6u,a8,a8];rfl
  ·have hft:=(a8Z hdi (n5 hf)).2
   have htl:=b04 hft
   have hj:=(i4.1 hf).1
   have hfl:=b9e (c:=c) (id:=d.Id) hft
   refine⟨?_,e,(a4c _ hs).le (by omega)⟩
   obtain⟨sd',se'⟩:=s
   dsimp only at e hs ⊢
   subst e
   rw [n8,hf,a8,a7q F c f.Text (by omega) (by omega) (by omega),hcs,hft,u5,if_pos rfl,a8]
   have htm:=a4g c f.Text
   rw [a6y (xs:=G2 c f.Text) (fun s x=>A5.mk s.Docs (a6b s.Entries [((f.Name,x.Text),(d.Id,x.At))])) (fun k s=>s.Docs=sd'∧a6k (i*480+j*160+k) s.Entries) ⟨sd',se'⟩ (by rw [Nat.add_zero];exact⟨rfl,hs⟩) (fun k x s hxk ⟨e,hs⟩=>?_)]
   ·rw [a6u (fun x:D3=>[((f.Name,x.Text),(d.Id,x.At))]),a8,a8]
    congr 2
    unfold a3R
    rw [List.map_eq_flatMap]
   ·have hk:=(i4.1 hxk).1
    refine⟨?_,e,by have h1:=a4c [((f.Name,x.Text),(d.Id,x.At))] hs;rw [l8,Nat.add_assoc] at h1;exact h1⟩
    obtain⟨sd'',se''⟩:=s
    dsimp only at e hs ⊢
    subst e
    rw [n8,hxk,a8,c1U F _ sd'' se'' f.Name x d.Id hs (by omega),a8]
    rfl
end Go.Fk
set_option linter.unusedVariables false
namespace Go.Fk
open Go
def eqL {α:Type}(q:α→α→Bool)(xs ys:List α):Bool:=decide ((xs.length:Int)=ys.length)&&(xs.zip ys).all fun p=>q p.1 p.2
theorem b2U {α:Type}{q:α→α→Bool}(h: ∀a b,q a b=true↔a=b): ∀xs ys:List α,eqL q xs ys=true↔xs=ys
 | [],[]=>by simp [eqL]
 | [],y::ys=>by simp [eqL];omega
 | x::xs,[]=>by simp [eqL];omega
 | x::xs,y::ys=>by
  have ih:=b2U h xs ys
  unfold eqL at ih ⊢
  rw [q8,decide_eq_true_iff] at ih ⊢
  rw [List.zip_cons_cons,List.all_cons,q8,h,List.cons.injEq,←ih]
  simp only [s6]
  constructor
  ·rintro⟨h1,h2,h3⟩;exact⟨h2,by omega,h3⟩
  ·rintro⟨h1,h2,h3⟩;exact⟨by omega,h1,h3⟩
theorem c9G {α:Type}{q:α→α→Bool}(h: ∀a b,q a b=true↔a=b)(xs:List α):eqL q xs xs=true:=(b2U h xs xs).2 rfl
theorem b6k {α:Type}{xs ys:List α}{i:Nat}{p:α×α}(h:(xs.zip ys)[i]? =some p):xs[i]? =some p.1∧ys[i]? =some p.2:=by
 have:=List.getElem?_zip_eq_some.1 h
 exact this
theorem b5F {α:Type}(q:α→α→Bool){xs ys:List α}{f:Nat→Unit→Option (Unit⊕Bool)}(h: ∀i a b,xs[i]? =some a→ys[i]? =some b→f i ()=some (if q a b then .inl () else .inr false)):
  (cond (!((xs.length:Int)==(ys.length:Int))) (some false) (Option.bind ((Option.bind (D1 f xs.length 0 ()) fun r=>r.elim (fun _=>some (.inl ())) (fun t=>some (.inr t))):Option (Unit⊕Bool)) fun o=>o.elim (fun _=>some true) fun t=>some t))=some (eqL q xs ys):=by
 by_cases e:(xs.length:Int)=ys.length
 ·have hz:(xs.zip ys).length=xs.length:=by rw [List.length_zip];omega
  have:=a0s (p:=fun p:α×α=>q p.1 p.2) (xs:=xs.zip ys) (f:=f) (fun i p hp=>h i p.1 p.2 (b6k hp).1 (b6k hp).2)
  have:=this xs.length 0 (by omega)
  rw [List.drop_zero] at this
  rw [this,beq_iff_eq.2 e]
  unfold eqL
  rw [b8 e,u5]
  cases (xs.zip ys).all fun p=>q p.1 p.2<;>rfl
 ·rw [beq_eq_false_iff_ne.2 e]
  unfold eqL
  rw [c6 e];rfl
theorem b1j {α:Type}(q:α→α→Bool){xs ys:List α}{f:Int→Option (Int⊕(Unit⊕Bool))}(F:Nat)(hF:xs.length<F)(h: ∀(i:Nat) a b,i<xs.length→xs[i]? =some a→ys[i]? =some b→f (i:Int)=some (if q a b then .inl ((i+1:Nat):Int) else .inr (.inr false)))(h0:f (xs.length:Int)=some (.inr (.inl ()))):
  (cond (!((xs.length:Int)==(ys.length:Int))) (some false) (Option.bind ((Option.bind (y2 f F (0:Int)) fun r=>r.elim (fun _=>some (.inl ())) (fun t=>some (.inr t))):Option (Unit⊕Bool)) fun o=>o.elim (fun _=>some true) fun t=>some t))=some (eqL q xs ys):=by
 by_cases e:(xs.length:Int)=ys.length
 ·have hz:(xs.zip ys).length=xs.length:=by rw [List.length_zip];omega
  have:=a1R (fun p:α×α=>q p.1 p.2) (xs:=xs.zip ys) (f:=f) F (by omega) (fun i p hp=>h i p.1 p.2 (by have:=(i4.1 hp).1;omega) (b6k hp).1 (b6k hp).2) (by rw [hz];exact h0)
  rw [this,beq_iff_eq.2 e]
  unfold eqL
  rw [b8 e,u5]
  cases (xs.zip ys).all fun p=>q p.1 p.2<;>rfl
 ·rw [beq_eq_false_iff_ne.2 e]
  unfold eqL
  rw [c6 e];rfl
def eqI (a b:Int):Bool:=a==b
def eqP (a b:F7):Bool:=a.Doc==b.Doc&&eqL eqI a.At b.At
def eqE (a b:C0):Bool:=a.Field==b.Field&&(a.Term==b.Term&&eqL eqP a.Posts b.Posts)
theorem c2Z (a b:Int):eqI a b=true↔a=b:=by simp [eqI]
theorem c20 (a b:F7):eqP a b=true↔a=b:=by
 unfold eqP
 rw [q8,b2U c2Z]
 cases a;cases b;simp
theorem c2X (a b:C0):eqE a b=true↔a=b:=by
 unfold eqE
 rw [q8,q8,b2U c20]
 cases a;cases b;simp
theorem c0g (F:Nat)(a b:List Int):a0l F a b=some (eqL eqI a b):=by
 unfold a0l
 refine b5F eqI fun i x y hx hy=>?_
 rw [n8,hx,a8,n8,hy,a8,T6]
 unfold eqI
 cases x==y<;>rfl
theorem c0k (F:Nat)(a b:F7):a15 F a b=some (eqP a b):=by
 unfold a15 eqP
 rw [c0g]
 cases a.Doc==b.Doc<;>rfl
theorem b8i (F:Nat)(a b:List F7):H3 F a b=some (eqL eqP a b):=by
 unfold H3
 refine b5F eqP fun i x y hx hy=>?_
 rw [n8,hx,a8,n8,hy,a8,c0k,a8,T6]
 cases eqP x y<;>rfl
theorem b8e (F:Nat)(a b:C0):a1m F a b=some (eqE a b):=by
 unfold a1m eqE
 rw [b8i]
 cases a.Field==b.Field
 ·rfl
 ·cases a.Term==b.Term<;>rfl
theorem b5K (F:Nat)(a b:List C0):G4 F a b=some (eqL eqE a b):=by
 unfold G4
 refine b5F eqE fun i x y hx hy=>?_
 rw [n8,hx,a8,n8,hy,a8,b8e,a8,T6]
 cases eqE x y<;>rfl
theorem c0Q (F:Nat)(a b:List Int)(hF:a.length<F)(hl:a.length<9000000000000000000):X5 F a b=some (eqL eqI a b):=by
 unfold X5
 refine b1j eqI F hF (fun i x y hi hx hy=>?_) ?_
 ·rw [b8 (by omega),j4,n8,hx,a8,n8,hy,a8,y5 (by omega),T6]
  unfold eqI
  cases x==y<;>rfl
 ·rw [c6 (by omega)];rfl
theorem b8K (F:Nat)(a b:C0)(h:a.Posts.length≤10000∧∀p∈a.Posts,p.At.length≤10000)(hF:10000<F):a0r F a b=some (eqE a b):=by
 unfold a0r eqE
 have key:=b1j eqP (xs:=a.Posts) (ys:=b.Posts) F (by omega) (f:=fun (s46:Int)=>(cond (decide (s46<(a.Posts.length:Int))) (Option.bind ((Option.bind (v8 a.Posts s46) fun x67=>(Option.bind (v8 b.Posts s46) fun x81=>(cond (!(x67.Doc==x81.Doc)) (some true) (Option.bind (v8 a.Posts s46) fun x101=>(Option.bind (v8 b.Posts s46) fun x115=>(Option.bind (X5 F x101.At x115.At) fun r129=>(some (!r129)))))))):Option Bool) fun o60=>(cond o60 (some (.inr (.inr false))) (some (.inl (z8 (s46+(1:Int))))))) (some (.inr (.inl ()))))) (fun i x y hi hx hy=>?_) ?_
 ·cases hf:a.Field==b.Field
  ·rfl
  cases ht:a.Term==b.Term
  ·rfl
  rw [u5,u5,←key]
  simp only [l7,i6]
  rfl
 ·have hp:=h.2 x (n5 hx)
  rw [b8 (by omega),j4,n8,hx,a8,n8,hy,a8,y5 (by omega),a8,a8,c0Q F _ _ (by omega) (by omega),a8,T6]
  unfold eqP
  cases x.Doc==y.Doc
  ·rfl
  ·cases eqL eqI x.At y.At<;>rfl
 ·rw [c6 (by omega)];rfl
theorem a8L {c:u6}{docs:List A1}(h:a1I docs=true):a6k 7680 (a1F c docs).Entries:=by
 have hall:=a4s h
 have hput:a6b [] (a5A c docs)=(a0v (a5A c docs)).map (mkE (a5A c docs)):=b7h _
 have hfin:a6k 7680 ((a0v (a5A c docs)).map (mkE (a5A c docs))):=by
  have hl:=Z4 (g:=a7l c) (m:=480) docs fun d hd=>a9P (hall.2 d hd)
  have hl2:=hall.1
  have:=a4c (B:=0) (a5A c docs) (es:=[]) (by simp [a6k])
  rw [hput] at this
  exact this.le (by unfold a5A;omega)
 have hm:=b65 (c:=c) (b1i h)
 have n1:(a1F c docs).Entries.Nodup:=(b2g c docs).imp fun {a b} k e=>by subst e;rw [b5S] at k;cases k
 have n2:((a0v (a5A c docs)).map (mkE (a5A c docs))).Nodup:=(b3C (a5A c docs)).imp fun {a b} k e=>by subst e;rw [b5S] at k;rcases k with k | k<;>cases k
 have hp:=(List.perm_ext_iff_of_nodup n1 n2).2 hm
 exact⟨by rw [hp.length_eq];exact hfin.1,fun e he=>hfin.2 e ((hm e).1 he)⟩
def G9 (c:u6)(s:A5):Bool:=Y6 c&&a1I s.Docs&&eqL eqE (a1F c s.Docs).Entries s.Entries
theorem a1T (F:Nat)(c:u6)(s:A5)(hd:s.Docs.length<9000000000000000000)(hc:c.Stops.length≤2000000)(hF:1000<F):H8 F c s=some (G9 c s):=by
 unfold H8 G9
 rw [b1m F c hc (by omega),a8,b8j F c s.Docs hd hc hF]
 unfold c2h
 cases hcs:Y6 c
 ·rfl
 rw [l7,i6,b4Z F s.Docs hd,a8,a8,u5]
 cases hds:a1I s.Docs
 ·rfl
 rw [l7,i6,if_pos rfl,a8,b5K];rfl
theorem c2r (F B:Nat)(c:u6)(s:A5)(hdl:s.Docs.length≤B)(hdb: ∀d∈s.Docs,b73 B d)(hc:a1K B c)(hB:B≤2000000)(hF:B+200000<F):a0N F c s=some (G9 c s):=by
 unfold a0N G9
 rw [b5l F B c hc hB (by omega),a8]
 cases hcs:Y6 c
 ·rfl
 rw [l7,i6,b8E F B s.Docs hdl hdb hB (by omega),a8,a8,u5]
 cases hds:a1I s.Docs
 ·rfl
 have hfit:=a8L (c:=c) hds
 rw [l7,i6,b7R F c s.Docs hcs (b6E hds) (by omega),a8,u5]
 have hl:=hfit.1
 refine b1j eqE F (by omega) (fun i x y hi hx hy=>?_) ?_
 ·have hp:=hfit.2 x (n5 hx)
  rw [b8 (by omega),j4,n8,hx,a8,n8,hy,a8,y5 (by omega),b8K F x y ⟨by omega,fun p hpp=>by have:=hp.2 p hpp;omega⟩ (by omega),a8,T6]
  cases eqE x y<;>rfl
 ·rw [c6 (by omega)];rfl
theorem a9a (F B:Nat)(c:u6)(s:A5)(hd:X3 s.Docs)(hc:a1K B c)(hB:B≤1000000)(hF:B+202000<F):a0N F c s=some (G9 c s):=
 c2r F (B+1000) c s (by have:=hd.few;omega) (fun d hm=>by
  have h:=hd.doc d hm
  exact⟨by have:=h.fields;omega,by have:=h.nums;omega,fun f hf=>by have:=h.field f hf;omega,fun a ha=>by have:=h.num a ha;omega⟩)
  ⟨⟨by have:=hc.stops.1;omega,fun x hx=>by have:=hc.stops.2 x hx;omega⟩,by have:=hc.syns.1;omega,fun r hr=>by
   have:=hc.syns.2 r hr
   exact⟨by omega,by omega,fun x hx=>by have:=this.2.2 x hx;omega⟩⟩ (by omega) (by omega)
theorem a0w {c:u6}{s:A5}(h:G9 c s=true):Y6 c=true∧a1I s.Docs=true∧s=a1F c s.Docs:=by
 unfold G9 at h
 rw [q8,q8,b2U c2X] at h
 refine⟨h.1.1,h.1.2,?_⟩
 have:s.Entries=(a1F c s.Docs).Entries:=h.2.symm
 cases s
 simp only at this
 subst this
 rfl
theorem c9M {c:u6}{docs:List A1}(h1:Y6 c=true)(h2:a1I docs=true):G9 c (a1F c docs)=true:=by
 unfold G9
 show (Y6 c&&a1I docs&&eqL eqE (a1F c docs).Entries (a1F c docs).Entries)=true
 rw [h1,h2,c9G c2X];rfl
end Go.Fk
