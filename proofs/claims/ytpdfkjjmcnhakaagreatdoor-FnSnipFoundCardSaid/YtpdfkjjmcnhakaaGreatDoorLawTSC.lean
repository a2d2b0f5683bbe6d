import Derived.Test.YtpdfkjjmcnhakaaGreatDoorLawDocs
import Derived.Test.YtpdfkjjmcnhakaaGreatDoorLawBase
/-
  The words of a text: the program and the reference find the same. Of no program.
-/
namespace Go.Fk
open Go
def a0U (b:UInt8):UInt8:=if (65:UInt8)≤b∧b≤(90:UInt8) then b+32 else b
def M9 (b:UInt8):Bool:=Z8 (a0U b)
theorem a4b (F:Nat)(b:UInt8):T7 F b=some (a0U b):=by
 unfold T7 a0U
 by_cases h1:(65:UInt8)≤b<;>by_cases h2:b≤(90:UInt8)<;>simp [h1,h2]
 exact a5Q (Q:=fun b=>b+97-65=b+32) (by decide +kernel) b
theorem b1m (b:UInt8):(!(a35 b==0))=M9 b:=a5Q (Q:=fun b=>(!(a35 b==0))=M9 b) (by decide +kernel) b
theorem b5S (b:UInt8):M9 b=true→a35 b=a0U b:=a5Q (Q:=fun b=>M9 b=true→a35 b=a0U b) (by decide +kernel) b
def L7 (s:l3)(o k:Nat):List M3:=
 match s with
 | []=>[]
 | b::r=>
  if M9 b then ⟨(((b::r).takeWhile M9).map a0U).take 12,(k:Int),(o:Int),((o+((b::r).takeWhile M9).length:Nat):Int)⟩::L7 ((b::r).drop ((b::r).takeWhile M9).length) (o+((b::r).takeWhile M9).length) (k+1)
  else L7 r (o+1) k
termination_by s.length
decreasing_by
 ·rename_i h
  simp only [List.length_drop,List.takeWhile_cons,h,if_true,l9];omega
 ·simp
def B1 (s:l3):List M3:=L7 s 0 0
theorem P1 (o k:Nat):L7 [] o k=[]:=by rw [L7]
theorem a4G {s:l3}{o k p:Nat}{b:UInt8}(h:s[p]? =some b)(hb:M9 b=false):L7 (s.drop p) o k=L7 (s.drop (p+1)) (o+1) k:=by
 have hp:=(g8.1 h)
 obtain⟨hlt,rfl⟩:=hp
 rw [List.drop_eq_getElem_cons hlt,L7,if_neg (by rw [hb];simp)]
theorem a7i {s:l3}{o k p:Nat}{b:UInt8}(h:s[p]? =some b)(hb:M9 b=true):L7 (s.drop p) o k=
  ⟨(((s.drop p).takeWhile M9).map a0U).take 12,(k:Int),(o:Int),((o+((s.drop p).takeWhile M9).length:Nat):Int)⟩::L7 (s.drop (p+((s.drop p).takeWhile M9).length)) (o+((s.drop p).takeWhile M9).length) (k+1):=by
 have hp:=(g8.1 h)
 obtain⟨hlt,rfl⟩:=hp
 rw [←List.drop_drop]
 generalize hd:s.drop p=t
 rw [List.drop_eq_getElem_cons hlt] at hd
 subst hd
 rw [L7,if_pos hb]
theorem a7V {s:l3}{p:Nat}:p+((s.drop p).takeWhile M9).length≤s.length∨s.length<p:=by
 have h1:=List.takeWhile_prefix M9 (l:=s.drop p)
 have h2:=h1.length_le
 rw [List.length_drop] at h2
 omega
theorem b6g {s:l3}{p j:Nat}(hj:j<((s.drop p).takeWhile M9).length): ∃b,s[p+j]? =some b∧M9 b=true∧((s.drop p).takeWhile M9)[j]? =some b:=by
 have h1:((s.drop p).takeWhile M9)[j]? =some ((s.drop p).takeWhile M9)[j]:=i6 hj
 refine⟨_,?_,?_,h1⟩
 ·have h2:=List.takeWhile_prefix M9 (l:=s.drop p)
  have h3:=h2.getElem hj
  rw [←List.getElem?_drop,i6 (by have:=h2.length_le;omega),←h3]
 ·exact List.all_eq_true.1 List.all_takeWhile _ (List.getElem_mem hj)
theorem b0O {s:l3}{p:Nat}:s[p+((s.drop p).takeWhile M9).length]? =none∨∃b,s[p+((s.drop p).takeWhile M9).length]? =some b∧M9 b=false:=by
 cases e:s[p+((s.drop p).takeWhile M9).length]? with
 | none=>exact .inl rfl
 | some b=>
  refine .inr ⟨b,rfl,?_⟩
  rw [←List.getElem?_drop] at e
  generalize s.drop p=t at e
  induction t with
  | nil=>simp at e
  | cons x r ih=>
   by_cases hx:M9 x=true
   ·simp only [List.takeWhile_cons,hx,if_true,l9,List.getElem?_cons_succ] at e
    exact ih e
   ·simp only [List.takeWhile_cons,hx] at e
    simp at e
    subst e
    simpa using hx
theorem b5h {xs:List UInt8}{n:Nat}{x:UInt8}(h:xs.length<n):xs.take n++[x]=(xs++[x]).take n:=by
 rw [List.take_of_length_le (by omega),List.take_of_length_le (by simp;omega)]
theorem b5g {xs:List UInt8}{n:Nat}{x:UInt8}(h:n≤xs.length):(xs++[x]).take n=xs.take n:=by
 rw [List.take_append_of_le_length h]
theorem a6O {f:UInt8→UInt8}{R:List UInt8}{j:Nat}{b:UInt8}(h:R[j]? =some b):(R.take (j+1)).map f=(R.take j).map f++[f b]:=by
 obtain⟨hlt,rfl⟩:=g8.1 h
 rw [List.take_succ_eq_append_getElem hlt,List.map_append];rfl
theorem a4V {σ τ:Type}{f:σ→Option (σ⊕τ)}{t:τ}(Inv:Nat→σ→Prop)(n:Nat)
  (step: ∀i s,i<n→Inv i s→(∃s',f s=some (.inl s')∧Inv (i+1) s')∨f s=some (.inr t))
  (fin: ∀s,Inv n s→f s=some (.inr t))(k i:Nat)(s:σ)(F:Nat)(he:i+k=n)(hF:k<F)(hi:Inv i s):u0 f F s=some t:=by
 obtain⟨t',h1,rfl⟩:=G3 (Post:=fun t'=>t'=t) Inv n (fun i s hi hI=>(step i s hi hI).imp id fun h=>⟨t,h,rfl⟩) (fun s hI=>⟨t,fin s hI,rfl⟩) k i s F he hF hi
 exact h1
theorem b5W (F:Nat)(s:l3)(p:Nat)(hp:p≤s.length)(hF:s.length+1<F)
  {f:Int×List UInt8→Option ((Int×List UInt8)⊕(Int×List UInt8))}
  (h1: ∀(q:Nat) (t:List UInt8) b,s[q]? =some b→M9 b=true→t.length<12→f ((q:Int),t)=some (.inl (((q+1:Nat):Int),t++[a0U b])))
  (h1': ∀(q:Nat) (t:List UInt8) b,s[q]? =some b→M9 b=true→¬t.length<12→f ((q:Int),t)=some (.inl (((q+1:Nat):Int),t)))
  (h2: ∀(q:Nat) (t:List UInt8),q≤s.length→(s[q]? =none∨∃b,s[q]? =some b∧M9 b=false)→f ((q:Int),t)=some (.inr ((q:Int),t))):
  u0 f F ((p:Int),[])=some (((p+((s.drop p).takeWhile M9).length:Nat):Int),(((s.drop p).takeWhile M9).map a0U).take 12):=by
 have hrl:=a7V (s:=s) (p:=p)
 obtain⟨t,ht,e⟩:=G3 (f:=f) (Post:=fun t=>t=(((p+((s.drop p).takeWhile M9).length:Nat):Int),(((s.drop p).takeWhile M9).map a0U).take 12))
  (fun j st=>st=(((p+j:Nat):Int),((((s.drop p).takeWhile M9).take j).map a0U).take 12)) ((s.drop p).takeWhile M9).length
  (fun j st hj hi=>by
   subst hi
   obtain⟨b,hb,hw,hr⟩:=b6g hj
   refine .inl ⟨_,?_,rfl⟩
   by_cases hl:(((((s.drop p).takeWhile M9).take j).map a0U).take 12).length<12
   ·rw [h1 _ _ b hb hw hl]
    have:((((s.drop p).takeWhile M9).take j).map a0U).length<12:=by rw [List.length_take] at hl;omega
    rw [b5h this,←a6O hr];rfl
   ·rw [h1' _ _ b hb hw hl]
    have:12≤((((s.drop p).takeWhile M9).take j).map a0U).length:=by rw [List.length_take] at hl;omega
    rw [a6O (f:=a0U) hr,b5g this];rfl)
  (fun st hi=>by
   subst hi
   refine⟨_,h2 _ _ (by omega) b0O,?_⟩
   rw [List.take_of_length_le (Nat.le_refl _)]) ((s.drop p).takeWhile M9).length 0 ((p:Int),[]) F (by omega) (by omega) (by simp)
 rw [ht,e]
theorem b6z (F:Nat)(s:l3)(p:Nat)(hp:p≤s.length)(hs:s.length≤2000000)(hF:s.length+1<F)
  {f:Int×List UInt8→Option ((Int×List UInt8)⊕(Int×List UInt8))}
  (h1: ∀(q:Nat) (t:List UInt8) b,s[q]? =some b→M9 b=true→t.length≤2000000→f ((q:Int),t)=some (.inl (((q+1:Nat):Int),t++[a0U b])))
  (h2: ∀(q:Nat) (t:List UInt8),q≤s.length→(s[q]? =none∨∃b,s[q]? =some b∧M9 b=false)→f ((q:Int),t)=some (.inr ((q:Int),t))):
  u0 f F ((p:Int),[])=some (((p+((s.drop p).takeWhile M9).length:Nat):Int),((s.drop p).takeWhile M9).map a0U):=by
 have hrl:=a7V (s:=s) (p:=p)
 obtain⟨t,ht,e⟩:=G3 (f:=f) (Post:=fun t=>t=(((p+((s.drop p).takeWhile M9).length:Nat):Int),((s.drop p).takeWhile M9).map a0U))
  (fun j st=>st=(((p+j:Nat):Int),(((s.drop p).takeWhile M9).take j).map a0U)) ((s.drop p).takeWhile M9).length
  (fun j st hj hi=>by
   subst hi
   obtain⟨b,hb,hw,hr⟩:=b6g hj
   refine .inl ⟨_,?_,rfl⟩
   rw [h1 _ _ b hb hw (by rw [List.length_map,List.length_take];omega),←a6O hr];rfl)
  (fun st hi=>by
   subst hi
   refine⟨_,h2 _ _ (by omega) b0O,?_⟩
   rw [List.take_of_length_le (Nat.le_refl _)]) ((s.drop p).takeWhile M9).length 0 ((p:Int),[]) F (by omega) (by omega) (by simp)
 rw [ht,e]
theorem a5s (F:Nat)(s:l3)(hs:s.length≤2000000)(hF:s.length+1<F):O0 F s=some (if O9 s then B1 s else []):=by
 unfold O0
 rw [a4O,a8]
 cases ht:O9 s
 ·rfl
 simp only [n5,i9,if_true]
 have hg: ∀(q:Nat) b,s[q]? =some b→p8 s (q:Int)=some b:=fun q b h=>by rw [l8];exact h
 have hlt: ∀(q:Nat) b,s[q]? =some b→decide ((q:Int)<(s.length:Int))=true:=fun q b h=>b8 (by have:=(g8.1 h).1;omega)
 rw [a4V (t:=B1 s) (fun i st=>∃(out:List M3) (o:Nat),st=(out,(o:Int))∧i≤o∧o≤s.length∧out.length≤o∧out++L7 (s.drop o) o out.length=B1 s) s.length
  (fun i st hi ⟨out,o,e1,e2,e3,e4,e5⟩=>?_) (fun st ⟨out,o,e1,e2,e3,e4,e5⟩=>?_) s.length 0 (([]:List M3),(0:Int)) F (by omega) (by omega) ⟨[],0,rfl,by omega,by omega,by simp,by simp [B1]⟩]
 ·rfl
 ·subst e1
  rcases Nat.lt_or_ge o s.length with hol | hol
  ·have hb:s[o]? =some s[o]:=i6 hol
   rw [hlt o _ hb,j6,hg o _ hb,a8,a4b,a8,a2h,a8]
   cases hw:M9 s[o]
   ·rw [show Z8 (a0U s[o])=false from hw]
    refine .inl ⟨(out,((o+1:Nat):Int)),?_,out,o+1,rfl,by omega,by omega,by omega,?_⟩
    ·rw [u4 (by omega)];rfl
    ·rw [←e5,a4G hb hw]
   ·rw [show Z8 (a0U s[o])=true from hw]
    have hrl:=a7V (s:=s) (p:=o)
    have hpos:0<((s.drop o).takeWhile M9).length:=by rw [List.drop_eq_getElem_cons hol,List.takeWhile_cons,if_pos hw];simp
    refine .inl ⟨(out++[⟨(((s.drop o).takeWhile M9).map a0U).take 12,(out.length:Int),(o:Int),((o+((s.drop o).takeWhile M9).length:Nat):Int)⟩],((o+((s.drop o).takeWhile M9).length:Nat):Int)),?_,_,_,rfl,by omega,by omega,by rw [j8,l6];omega,?_⟩
    ·simp only [n5,i9]
     rw [b5W F s o e3 hF ?_ ?_ ?_,a8,a8,F5 (by simp;omega)]
     ·rfl
     ·intro q t b hb hw hl
      rw [hlt q b hb,j6,hg q b hb,a8,a4b,a8,a2h,a8,a8,show Z8 (a0U b)=true from hw,j6,b8 (show (t.length:Int)<12 by omega),j6,a8,a4b,a8,F5 (by simp;omega),a8,u4 (by have:=(g8.1 hb).1;omega)]
     ·intro q t b hb hw hl
      rw [hlt q b hb,j6,hg q b hb,a8,a4b,a8,a2h,a8,a8,show Z8 (a0U b)=true from hw,j6,c6 (show ¬(t.length:Int)<12 by omega),i9,u4 (by have:=(g8.1 hb).1;omega)]
     ·intro q t hq hor
      rcases hor with hn | ⟨b,hb,hw⟩
      ·rw [c6 (show ¬(q:Int)<s.length by have:=List.getElem?_eq_none_iff.1 hn;omega)];rfl
      ·rw [hlt q b hb,j6,hg q b hb,a8,a4b,a8,a2h,a8,a8,show Z8 (a0U b)=false from hw];rfl
    ·rw [List.append_assoc,←e5,a7i hb hw,j8,l6];rfl
  ·refine .inr ?_
   rw [c6 (by omega)]
   show some (Sum.inr out)=_
   rw [←e5,List.drop_of_length_le hol,P1,List.append_nil]
 ·subst e1
  have:o=s.length:=by omega
  subst this
  rw [c6 (by omega)]
  show some (Sum.inr out)=_
  rw [←e5,List.drop_of_length_le (Nat.le_refl _),P1,List.append_nil]
theorem a5z (F:Nat)(s:l3)(hs:s.length≤2000000)(hF:s.length+2<F):O4 F s=some (B1 s):=by
 unfold O4
 have hg: ∀(q:Nat) b,s[q]? =some b→p8 s (q:Int)=some b:=fun q b h=>by rw [l8];exact h
 have hlt: ∀(q:Nat) b,s[q]? =some b→decide ((q:Int)<(s.length:Int))=true:=fun q b h=>b8 (by have:=(g8.1 h).1;omega)
 have hrun: ∀(o:Nat),o≤s.length→_:=fun o ho=>b6z F s o ho hs (by omega) (f:=fun (s55:Int×(List UInt8))=>(Option.bind ((cond (decide (s55.1<(s.length:Int))) (Option.bind (p8 s s55.1) fun x81=>(Option.bind (J9 F x81) fun r84=>(some (!(r84==(0:UInt8)))))) (some false)):Option Bool) fun o72=>(cond o72 (Option.bind (p8 s s55.1) fun x94=>(Option.bind (J9 F x94) fun r97=>(Option.bind (J5 1 s55.2 ([r97]:List UInt8)) fun x112=>(some (.inl ((y8 (s55.1+(1:Int))),x112)))))) (some (.inr (s55.1,s55.2))))))
  (fun q t b hb hw hl=>by
   show Option.bind _ _=_
   rw [hlt q b hb,j6,hg q b hb,a8,a4R,a8,a8,show (!(a35 b==0))=true by rw [b1m];exact hw,j6,a8,a4R,a8,F5 (by simp;omega),a8,u4 (by have:=(g8.1 hb).1;omega),b5S b hw])
  (fun q t hq hor=>by
   show Option.bind _ _=_
   rcases hor with hn | ⟨b,hb,hw⟩
   ·rw [c6 (show ¬(q:Int)<s.length by have:=List.getElem?_eq_none_iff.1 hn;omega)];rfl
   ·rw [hlt q b hb,j6,hg q b hb,a8,a4R,a8,a8,show (!(a35 b==0))=false by rw [b1m];exact hw];rfl)
 rw [a4V (t:=B1 s) (fun i st=>∃(out:List M3) (o:Nat),st=(out,(o:Int))∧i≤o∧o≤s.length+1∧out.length≤o∧out++L7 (s.drop o) o out.length=B1 s) s.length
  (fun i st hi ⟨out,o,e1,e2,e3,e4,e5⟩=>?_) (fun st ⟨out,o,e1,e2,e3,e4,e5⟩=>?_) s.length 0 (([]:List M3),(0:Int)) F (by omega) (by omega) ⟨[],0,rfl,by omega,by omega,by simp,by simp [B1]⟩]
 ·rfl
 ·subst e1
  rcases Nat.lt_or_ge o s.length with hol | hol
  ·have hb:s[o]? =some s[o]:=i6 hol
   have hrl:=a7V (s:=s) (p:=o)
   rw [hlt o _ hb,j6,hrun o (by omega),a8,a8]
   simp only
   have hcut:(Option.bind ((cond (decide ((12:Int)<((((s.drop o).takeWhile M9).map a0U).length:Int))) (Option.bind (Z6 (((s.drop o).takeWhile M9).map a0U) 0 (12:Int)) fun x139=>(some x139)) (some (((s.drop o).takeWhile M9).map a0U))):Option (List UInt8)) fun x=>some x)=some ((((s.drop o).takeWhile M9).map a0U).take 12):=by
    by_cases hl:12<(((s.drop o).takeWhile M9).map a0U).length
    ·rw [b8 (by omega),j6,Z6,if_pos (by omega)];rfl
    ·rw [c6 (by omega),i9,List.take_of_length_le (by omega)];rfl
   rw [show ∀o:Option (List UInt8),(Option.bind o fun x=>some x)=o from fun o=>by cases o<;>rfl] at hcut
   rw [hcut,a8]
   cases hw:M9 s[o]
   ·have hnil:(s.drop o).takeWhile M9=[]:=by rw [List.drop_eq_getElem_cons hol,List.takeWhile_cons,hw];simp
    rw [hnil]
    refine .inl ⟨(out,((o+1:Nat):Int)),?_,out,o+1,rfl,by omega,by omega,by omega,?_⟩
    ·simp only [List.map_nil,List.take_nil,List.length_nil,Nat.add_zero]
     rw [u4 (by omega)];rfl
    ·rw [←e5,a4G hb hw]
   ·have hpos:0<((s.drop o).takeWhile M9).length:=by rw [List.drop_eq_getElem_cons hol,List.takeWhile_cons,if_pos hw];simp
    rw [b8 (by rw [List.length_take,List.length_map];omega),j6,F5 (by simp;omega),a8,u4 (by omega)]
    refine .inl ⟨_,rfl,_,_,rfl,by omega,by omega,by rw [j8,l6];omega,?_⟩
    have e9:L7 (s.drop (o+((s.drop o).takeWhile M9).length+1)) (o+((s.drop o).takeWhile M9).length+1) (out.length+1)=L7 (s.drop (o+((s.drop o).takeWhile M9).length)) (o+((s.drop o).takeWhile M9).length) (out.length+1):=by
     rcases b0O (s:=s) (p:=o) with hn | ⟨b,hb2,hw2⟩
     ·have:=List.getElem?_eq_none_iff.1 hn
      rw [List.drop_of_length_le (i:=o+((s.drop o).takeWhile M9).length+1) (by omega),List.drop_of_length_le (i:=o+((s.drop o).takeWhile M9).length) (by omega),P1,P1]
     ·exact(a4G hb2 hw2).symm
    rw [List.append_assoc,←e5,a7i hb hw,j8,l6,e9];rfl
  ·refine .inr ?_
   rw [c6 (by omega)]
   show some (Sum.inr out)=_
   rw [←e5,List.drop_of_length_le hol,P1,List.append_nil]
 ·subst e1
  rw [c6 (by omega)]
  show some (Sum.inr out)=_
  rw [←e5,List.drop_of_length_le (by omega),P1,List.append_nil]
end Go.Fk
set_option linter.unusedVariables false
namespace Go.Fk
open Go
def a5o:List l3:=[[105,110,103],[101,100],[101,115],[108,121],[115]]
def a6u (s e:l3):Bool:=decide (e.length+3≤s.length)&&(s.drop (s.length-e.length)==e)
def b0h (s e:l3):l3:=s.take (s.length-e.length)
def P4 (s:l3):l3:=(a5o.find? (a6u s)).elim s (b0h s)
theorem a8h {e:l3}(h:e∈a5o):1≤e.length∧e.length≤3:=by
 simp only [a5o,List.mem_cons,List.not_mem_nil,or_false] at h
 rcases h with rfl | rfl | rfl | rfl | rfl<;>decide
theorem a2s (s:l3):(a5o.find? (a6u s)=none∧P4 s=s)∨∃e,a5o.find? (a6u s)=some e∧P4 s=b0h s e∧1≤e.length∧e.length+3≤s.length:=by
 unfold P4
 cases h:a5o.find? (a6u s) with
 | none=>exact .inl ⟨rfl,rfl⟩
 | some e=>
  have h1:=List.find?_some h
  have h2:=a8h (List.mem_of_find?_eq_some h)
  simp only [a6u,l5,decide_eq_true_iff] at h1
  exact .inr ⟨e,rfl,rfl,h2.1,h1.1⟩
theorem a0m {s:l3}(h:P4 s≠s):(P4 s).length<s.length:=by
 rcases a2s s with ⟨_,h1⟩ | ⟨e,_,h1,h2,h3⟩
 ·exact absurd h1 h
 ·rw [h1,b0h,List.length_take];omega
theorem b7r {s e:l3}(h:a5o.find? (a6u s)=some e):P4 s≠s:=by
 rcases a2s s with ⟨h0,_⟩ | ⟨e',h1,h2,h3,h4⟩
 ·rw [h] at h0;cases h0
 ·intro h5
  have:=congrArg List.length h5
  rw [h2,b0h,List.length_take] at this;omega
theorem b57 (s:l3):(P4 s).length≤s.length:=by
 rcases a2s s with ⟨_,h1⟩ | ⟨e,_,h1,h2,h3⟩
 ·rw [h1];exact Nat.le_refl _
 ·rw [h1,b0h,List.length_take];omega
def T1 (s:l3):l3:=if h:P4 s=s then s else T1 (P4 s)
termination_by s.length
decreasing_by exact a0m h
theorem a6U {s:l3}(h:P4 s=s):T1 s=s:=by rw [T1,dif_pos h]
theorem b0W {s:l3}(h:P4 s≠s):T1 s=T1 (P4 s):=by rw [T1,dif_neg h]
theorem a87 {P:l3→l3→Prop}(h0: ∀s,P4 s=s→P s s)(h1: ∀s t,P4 s≠s→P (P4 s) t→P s t): ∀s,P s (T1 s):=by
 intro s
 induction hn:s.length using Nat.strongRecOn generalizing s with
 | _ n ih=>
  subst hn
  by_cases h:P4 s=s
  ·rw [a6U h];exact h0 s h
  ·rw [b0W h];exact h1 s _ h (ih _ (a0m h) _ rfl)
theorem b2c (s:l3):(T1 s).length≤s.length:=a87 (P:=fun s t=>t.length≤s.length) (fun s _=>Nat.le_refl _) (fun s t _ h=>Nat.le_trans h (b57 s)) s
theorem b2e (s:l3):T1 s<+:s:=a87 (P:=fun s t=>t<+:s) (fun s _=>List.prefix_refl s) (fun s t _ h=>h.trans (by
 rcases a2s s with ⟨_,h1⟩ | ⟨e,_,h1,_⟩
 ·rw [h1];exact List.prefix_refl s
 ·rw [h1];exact List.take_prefix _ _)) s
theorem b6B (s:l3)(h:1≤s.length):1≤(T1 s).length:=by
 have:=a87 (P:=fun s t=>1≤s.length→1≤t.length) (fun s _ h=>h) (fun s t hne ih _=>ih (by
  rcases a2s s with ⟨_,h1⟩ | ⟨e,_,h1,h2,h3⟩
  ·exact absurd h1 hne
  ·rw [h1,b0h,List.length_take];omega)) s
 exact this h
theorem b5m {s:l3}(h:A1 s=true):A1 (T1 s)=true:=by
 simp only [A1,l5,decide_eq_true_iff,List.all_eq_true] at h ⊢
 have h1:=b6B s h.2.1
 have h2:=b2c s
 exact⟨fun b hb=>h.1 b ((b2e s).subset hb),h1,by omega⟩
theorem b2g {s:l3}{k:Nat}(h:k≤s.length):a1n s (k:Int) s.length=some (s.drop k):=by
 rw [a1n,if_pos (by omega)]
 simp
theorem b34 {s:l3}{k:Nat}(h:k≤s.length):a1n s 0 (k:Int)=some (s.take k):=by
 rw [a1n,if_pos (by omega)]
 simp
theorem b4u (F:Nat)(s e:l3)(hs:s.length≤2000000):M5 F s e=some (decide (e.length≤s.length)&&(s.drop (s.length-e.length)==e)):=by
 unfold M5 L9
 by_cases h:e.length≤s.length
 ·rw [b8 (show (e.length:Int)≤s.length by omega),j6,b8 h,B9 ⟨by omega,by omega⟩,show (s.length:Int)-e.length=((s.length-e.length:Nat):Int) by omega,b2g (by omega)]
  rfl
 ·rw [c6 (show ¬(e.length:Int)≤s.length by omega),i9,c6 h]
  rfl
theorem b64 (s e:l3):((decide (e.length≤s.length)&&(s.drop (s.length-e.length)==e))&&decide (e.length+3≤s.length))=a6u s e:=by
 unfold a6u
 by_cases h:e.length+3≤s.length
 ·rw [b8 h,b8 (show e.length≤s.length by omega)];simp
 ·rw [c6 h];simp
theorem a95 (F:Nat):a0x F=some a5o:=rfl
theorem b46 (F:Nat)(s:l3)(hs:s.length≤2000000)(hF:5<F):N5 F s=some (P4 s):=by
 unfold N5
 rw [a3D (xs:=a5o) (a6u s) (fun e=>Sum.inr (b0h s e)) (e:=Sum.inl ()) F hF (fun i e he=>?_) ?_]
 ·unfold P4
  cases a5o.find? (a6u s)<;>rfl
 ·rw [a95,a8,c6 (by omega)];rfl
 ·have hi:=(g8.1 he).1
  have hel:=a8h (m8 he)
  rw [a95,a8,b8 (by omega),j6,a8,l8,he,a8]
  have hw:y8 ((s.length:Int)-(e.length:Int))=(s.length:Int)-e.length:=B9 ⟨by omega,by omega⟩
  rw [hw]
  unfold a6u
  by_cases h:e.length+3≤s.length
  ·rw [b8 (show (3:Int)≤(s.length:Int)-e.length by omega),j6,b8 h,show (s.length:Int)-e.length=((s.length-e.length:Nat):Int) by omega,b2g (by omega),a8,a8,n8]
   cases s.drop (s.length-e.length)==e
   ·rw [i9,u4 (by have:a5o.length=5:=rfl;omega)];rfl
   ·rw [j6,b34 (by omega)];rfl
  ·rw [c6 (show ¬(3:Int)≤(s.length:Int)-e.length by omega),i9,c6 h,a8,i9,u4 (by have:a5o.length=5:=rfl;omega)];rfl
theorem a6T (F:Nat)(s:l3)(hs:s.length≤2000000)(hF:s.length+6<F):R0 F s=some (T1 s):=by
 have key: ∀(G:Nat) (t:l3),t.length<G→t.length≤2000000→u0 (σ:=l3) (τ:=l3) (fun (s10:l3)=>(Option.bind (N5 F s10) fun r22=>(cond (!(r22==s10)) (Option.bind (N5 F s10) fun r33=>(some (.inl r33))) (some (.inr s10))))) G t=some (T1 t):=by
  intro G
  induction G with
  | zero=>intro t h;omega
  | succ G ih=>
   intro t h ht
   rw [u0,b46 F t ht (by omega),a8]
   by_cases he:P4 t=t
   ·rw [he,a6U he];simp
   ·rw [b0W he,show (P4 t==t)=false from by simpa using he]
    simp only [Bool.not_false,j6,a8,Sum.elim_inl]
    exact ih _ (by have:=a0m he;omega) (by have:=a0m he;omega)
 unfold R0
 rw [key F s (by omega) hs];rfl
theorem b5a {f:l3×Bool→Option ((l3×Bool)⊕l3)}(h1: ∀t:l3,t.length≤2000000→f (t,true)=some (.inl (P4 t,!(P4 t==t))))(h2: ∀t,f (t,false)=some (.inr t)):
  ∀(G:Nat) (t:l3),t.length+1<G→t.length≤2000000→u0 f G (t,true)=some (T1 t):=by
 intro G
 induction G with
 | zero=>intro t h;omega
 | succ G ih=>
  intro t h ht
  rw [u0,h1 t ht,a8]
  by_cases he:P4 t=t
  ·rw [he,a6U he]
   obtain⟨G,rfl⟩: ∃H,G=H+1:=⟨G-1,by omega⟩
   rw [show (!(t==t))=false from by simp]
   simp only [Sum.elim_inl]
   rw [u0,h2];rfl
  ·rw [b0W he,show (P4 t==t)=false from by simpa using he]
   exact ih _ (by have:=a0m he;omega) (by have:=a0m he;omega)
theorem b4E (F:Nat)(s:l3)(hs:s.length≤2000000)(hF:s.length+6<F):N2 F s=some (if A1 s then T1 s else []):=by
 unfold N2
 rw [F3,a8]
 cases hw:A1 s
 ·rfl
 simp only [n5,i9,if_true]
 rw [b5a (fun t ht=>?_) (fun t=>?_) F s (by omega) hs]
 ·rfl
 ·rw [j6]
  rw [show ([([105,110,103]:l3),([101,100]:l3),([101,115]:l3),([108,121]:l3),([115]:l3)]:List l3)=a5o from rfl,a1u (xs:=a5o) (a6u t) (fun e=>(b0h t e,true)) (fun i e he=>?_)]
  ·cases h:a5o.find? (a6u t) with
   | none=>
    have:P4 t=t:=by unfold P4;rw [h];rfl
    simp [this]
   | some e=>
    have h1:=b7r h
    have h2:P4 t=b0h t e:=by unfold P4;rw [h];rfl
    rw [show (P4 t==t)=false from by simpa using h1,h2];rfl
  ·have hel:=a8h (m8 he)
   have hww:y8 ((t.length:Int)-(e.length:Int))=(t.length:Int)-e.length:=B9 ⟨by omega,by omega⟩
   rw [l8,he,a8]
   simp only
   rw [b4u F t e ht,a8,hww,←b64]
   cases hq:(decide (e.length≤t.length)&&(t.drop (t.length-e.length)==e))
   ·rfl
   ·rw [j6,a8,n8]
    by_cases h:e.length+3≤t.length
    ·rw [b8 (show (3:Int)≤(t.length:Int)-e.length by omega),b8 h,j6,show (t.length:Int)-e.length=((t.length-e.length:Nat):Int) by omega,b34 (by omega)];rfl
    ·rw [c6 (show ¬(3:Int)≤(t.length:Int)-e.length by omega),c6 h];rfl
 ·rfl
end Go.Fk
set_option linter.unusedVariables false
namespace Go.Fk
open Go
theorem a4z (F:Nat)(xs:List l3)(v:l3)(hl:xs.length≤2000000)(hF:xs.length<F):M8 F xs v=some (xs.any (· ==v)):=by
 unfold M8
 rw [a3D (xs:=xs) (fun x=>x==v) (fun _=>Sum.inr true) (e:=Sum.inl ()) F hF (fun i x hx=>?_) ?_]
 ·rw [←List.isSome_find?]
  cases xs.find? (· ==v)<;>rfl
 ·rw [c6 (by omega)];rfl
 ·have hi:=(g8.1 hx).1
  rw [b8 (by omega),j6,l8,hx,a8,u4 (by omega)]
  cases x==v<;>rfl
theorem b33 (a b:l3):(a==b)=(b==a):=by
 rw [Bool.eq_iff_iff];simp only [beq_iff_eq];exact eq_comm
theorem a0E (F:Nat)(xs:List l3)(v:l3):C5 F xs v=some (xs.any (· ==v)):=by
 unfold C5 P3
 rw [b1s (xs:=xs) (fun x=>x==v) (fun i x hx=>?_)]
 ·rw [←b8G]
  cases xs.findIdx? (· ==v)<;>rfl
 ·rw [l8,hx,a8,b33 v x]
  cases x==v<;>rfl
def a5q (stops:List l3)(w:l3):Bool:=A1 w&&((T1 w==w)&& !stops.any (· ==w))
def a5j (stops:List l3)(r:M2):Bool:=((decide ((1:Int)≤r.From.length)&&decide ((r.From.length:Int)≤3))&&(A1 r.To&&(T1 r.To==r.To)))&&r.From.all (a5q stops)
def b4h (xs:List l3):Bool:=a1c A1 y7 xs
def I4 (c:o0):Bool:=(decide ((c.Stops.length:Int)≤6)&&b4h c.Stops&&decide ((c.Syns.length:Int)≤4))&&c.Syns.all (a5j c.Stops)
structure a2D (B:Nat)(c:o0):Prop where
 stops:c.Stops.length≤B∧∀s∈c.Stops,s.length≤B
 syns:c.Syns.length≤B∧∀r∈c.Syns,r.From.length≤B∧r.To.length≤B∧∀w∈r.From,w.length≤B
theorem a0o {s:l3}(h:A1 s=true):s.length≤12:=by
 simp only [A1,l5,decide_eq_true_iff] at h
 exact h.2.2
theorem b5U (F:Nat)(xs:List l3)(hl:xs.length≤2000000):O1 F xs=some (b4h xs):=by
 unfold O1 b4h
 rw [a3g (ok:=A1) (lt:=y7) (xs:=xs) (fun i x hx=>?_)]
 ·cases a1c A1 y7 xs<;>rfl
 ·have hi:=(g8.1 hx).1
  rw [l8,hx,a8,F3,a8]
  cases A1 x
  ·rfl
  ·simp only [n5,i9,n8]
   rcases Nat.eq_zero_or_pos i with rfl | hp
   ·rfl
   ·rw [b8 (by omega),j6,Z7 hp (by omega),l8,c6 (by omega),Bool.false_or]
    have h1:i-1<xs.length:=by omega
    rw [i6 h1]
    simp only [a8,Option.elim_some]
    exact(show ∀b:Bool,(bif !b then some (Sum.inr false) else some (Sum.inl ()))=some (if b=true then Sum.inl () else Sum.inr false) from fun b=>by cases b<;>rfl) _
theorem b0X (F:Nat)(s:l3)(h:A1 s=true)(hF:20<F):N2 F s=some (T1 s):=by
 rw [b4E F s (by have:=a0o h;omega) (by have:=a0o h;omega),h];rfl
theorem a4N (F:Nat)(c:o0)(h1:c.Stops.length≤2000000)(hF:20<F):N1 F c=some (I4 c):=by
 unfold N1 I4
 rw [b5U F _ h1]
 by_cases h6:(c.Stops.length:Int)≤6
 case neg=>
  rw [c6 h6,b8 (by omega)];rfl
 rw [b8 h6,c6 (by omega),i9,a8]
 cases b4h c.Stops
 ·rfl
 simp only [n5,i9,a8,n8]
 by_cases h4:(c.Syns.length:Int)≤4
 case neg=>
  rw [c6 h4,b8 (by omega)];rfl
 rw [b8 h4,c6 (by omega),i9,n8]
 rw [Q4 (p:=a5j c.Stops) (xs:=c.Syns) (fun i r hr=>?_) c.Syns.length 0 (by omega),List.drop_zero]
 ·cases c.Syns.all (a5j c.Stops)<;>rfl
 ·rw [l8,hr,a8,F9,a8,a5j]
  cases decide ((1:Int)≤r.From.length)&&decide ((r.From.length:Int)≤3)
  ·rfl
  simp only [n5,i9,n8]
  rw [F3,a8]
  cases hw:A1 r.To
  ·rfl
  simp only [n5,i9,n8]
  rw [b0X F _ hw hF,a8,a8]
  cases T1 r.To==r.To
  ·rfl
  simp only [n5,i9,n8]
  rw [Q4 (p:=a5q c.Stops) (xs:=r.From) (fun j w hj=>?_) r.From.length 0 (by omega),List.drop_zero]
  ·cases r.From.all (a5q c.Stops)<;>rfl
  ·rw [l8,hj,a8,F3,a8,a5q]
   cases hw2:A1 w
   ·rfl
   simp only [n5,i9,n8]
   rw [b0X F _ hw2 hF,a8]
   cases T1 w==w
   ·rfl
   simp only [n5,i9,n8]
   rw [a0E,a8,a8]
   cases c.Stops.any (· ==w)<;>rfl
theorem a5y (F:Nat)(s:l3)(B:Nat)(hs:s.length≤B)(hB:B≤2000000)(hF:B+20<F):E7 F s=some (A1 s):=
 a4S F s (by omega) (by have h0:2000000≤maxLen:=(by decide);omega)
theorem b6x {xs:List l3}{F B:Nat}(hl:xs.length≤B)(hs: ∀s∈xs,s.length≤B)(hB:B≤2000000)(hF:B+20<F){f:Int→Option (Int⊕(Unit⊕Bool))}
  (h: ∀s:Int,f s=(cond (decide (s<(xs.length:Int))) (Option.bind ((Option.bind (p8 xs s) fun x42=>(Option.bind (E7 F x42) fun r52=>(cond (!r52) (some true) (cond (decide ((0:Int)<s)) (Option.bind (p8 xs s) fun x67=>(Option.bind (p8 xs (y8 (s-(1:Int)))) fun x77=>(some (y7 x67 x77||x67==x77)))) (some false))))):Option Bool) fun o35=>(cond o35 (some (.inr (.inr false))) (some (.inl (y8 (s+(1:Int))))))) (some (.inr (.inl ()))))):
  u0 f F (0:Int)=some (if b4h xs then .inl () else .inr false):=by
 refine a3I (ok:=A1) (lt:=y7) (xs:=xs) (fun i x hx=>?_) ?_ F (by omega)
 ·have hi:=(g8.1 hx).1
  rw [h,b8 (by omega),j6,l8,hx,a8,a5y F x B (hs x (m8 hx)) hB hF,a8]
  cases A1 x
  ·rfl
  ·simp only [n5,i9,n8]
   rw [u4 (by omega)]
   rcases Nat.eq_zero_or_pos i with rfl | hp
   ·rfl
   ·rw [b8 (by omega),j6,a8,Z7 hp (by omega),l8,c6 (by omega),Bool.false_or]
    have h1:i-1<xs.length:=by omega
    rw [i6 h1]
    simp only [a8,Option.elim_some]
    have:=a27 xs[i-1] x
    rw [←this]
    exact(show ∀b:Bool,(bif !b then some (Sum.inr (Sum.inr false)) else some (Sum.inl ((i+1:Nat):Int)))=some (if b=true then Sum.inl ((i+1:Nat):Int) else Sum.inr (Sum.inr false)) from fun b=>by cases b<;>rfl) _
 ·rw [h,c6 (by omega)];rfl
theorem a94 (F B:Nat)(c:o0)(hc:a2D B c)(hB:B≤2000000)(hF:B+30<F):a0P F c=some (I4 c):=by
 obtain⟨⟨h1,h2⟩,h3,h4⟩:=hc
 unfold a0P I4
 rw [b6x (xs:=c.Stops) (B:=B) h1 h2 hB (by omega) (fun _=>rfl),a8]
 cases b4h c.Stops
 ·simp only [Bool.and_false,Bool.false_and];rfl
 rw [if_pos rfl]
 simp only [Bool.and_true]
 show Option.bind _ _=_
 show Option.bind _ _=_
 rw [a3s (a5j c.Stops) (xs:=c.Syns) F (by omega) (fun i r hr=>?_) ?_,a8]
 ·cases c.Syns.all (a5j c.Stops)
  ·simp only [Bool.and_false];rfl
  ·rw [if_pos rfl]
   simp only [Bool.and_true]
   show cond _ _ _=_
   cases decide ((c.Stops.length:Int)≤6)<;>rfl
 ·rw [c6 (by omega)];rfl
 ·have hi:=(g8.1 hr).1
  obtain⟨g1,g2,g3⟩:=h4 r (m8 hr)
  rw [b8 (by omega),j6,l8,hr,a8]
  rw [a3s (a5q c.Stops) (xs:=r.From) F (by omega) (fun j w hj=>?_) ?_,a8,a5j]
  ·cases r.From.all (a5q c.Stops)
   ·simp only [Bool.and_false];rfl
   ·rw [if_pos rfl]
    simp only [Bool.and_true]
    show Option.bind _ _=_
    rw [inS,a8,u4 (by omega)]
    cases decide ((1:Int)≤r.From.length)&&decide ((r.From.length:Int)≤3)
    ·rfl
    simp only [n5,i9,n8]
    rw [a5y F r.To B g2 hB (by omega),a8]
    cases hw:A1 r.To
    ·rfl
    simp only [n5,i9,n8]
    rw [a6T F r.To (by omega) (by omega),a8,a8]
    cases T1 r.To==r.To<;>rfl
  ·rw [c6 (by omega)];rfl
  ·have hj2:=(g8.1 hj).1
   have hwl:=g3 w (m8 hj)
   rw [b8 (by omega),j6,l8,hj,a8,a5y F w B hwl hB (by omega),a8,a5q,u4 (by omega)]
   cases hw2:A1 w
   ·rfl
   simp only [n5,i9,n8]
   rw [a8,a6T F w (by omega) (by omega),a8,a8]
   cases T1 w==w
   ·rfl
   simp only [n5,i9,n8]
   rw [a8,a4z F c.Stops w (by omega) (by omega),a8,a8]
   cases c.Stops.any (· ==w)<;>rfl
end Go.Fk
