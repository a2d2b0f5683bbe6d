import Derived.Test.YtpdfkjjmcnhakaaGreatDoorLawDocs
import Derived.Test.YtpdfkjjmcnhakaaGreatDoorLawFind
/-
  The words of a text: the program and the reference find the same. Of no program.
-/
namespace Go.Fk
open Go
def lowB (b:UInt8):UInt8:=if (65:UInt8)≤b∧b≤(90:UInt8) then b+32 else b
def isW (b:UInt8):Bool:=wordB (lowB b)
theorem impl_low (F:Nat)(b:UInt8):M.impl_lower F b=some (lowB b):=by
 unfold M.impl_lower lowB
 by_cases h1:(65:UInt8)≤b<;>by_cases h2:b≤(90:UInt8)<;>simp [h1,h2]
 exact byte_all (Q:=fun b=>b+97-65=b+32) (by decide +kernel) b
theorem fold_isW (b:UInt8):(!(foldB b==0))=isW b:=byte_all (Q:=fun b=>(!(foldB b==0))=isW b) (by decide +kernel) b
theorem fold_low (b:UInt8):isW b=true→foldB b=lowB b:=byte_all (Q:=fun b=>isW b=true→foldB b=lowB b) (by decide +kernel) b
def wordsA (s:Str)(o k:Nat):List GWord:=
 match s with
 | []=>[]
 | b::r=>
  if isW b then ⟨(((b::r).takeWhile isW).map lowB).take 12,(k:Int),(o:Int),((o+((b::r).takeWhile isW).length:Nat):Int)⟩::wordsA ((b::r).drop ((b::r).takeWhile isW).length) (o+((b::r).takeWhile isW).length) (k+1)
  else wordsA r (o+1) k
termination_by s.length
decreasing_by
 ·rename_i h
  simp only [List.length_drop,List.takeWhile_cons,h,if_true,List.length_cons];omega
 ·simp
def wordsS (s:Str):List GWord:=wordsA s 0 0
theorem wordsA_nil (o k:Nat):wordsA [] o k=[]:=by rw [wordsA]
theorem wordsA_skip {s:Str}{o k p:Nat}{b:UInt8}(h:s[p]? =some b)(hb:isW b=false):wordsA (s.drop p) o k=wordsA (s.drop (p+1)) (o+1) k:=by
 have hp:=(List.getElem?_eq_some_iff.1 h)
 obtain⟨hlt,rfl⟩:=hp
 rw [List.drop_eq_getElem_cons hlt,wordsA,if_neg (by rw [hb];simp)]
theorem wordsA_word {s:Str}{o k p:Nat}{b:UInt8}(h:s[p]? =some b)(hb:isW b=true):wordsA (s.drop p) o k=
  ⟨(((s.drop p).takeWhile isW).map lowB).take 12,(k:Int),(o:Int),((o+((s.drop p).takeWhile isW).length:Nat):Int)⟩::wordsA (s.drop (p+((s.drop p).takeWhile isW).length)) (o+((s.drop p).takeWhile isW).length) (k+1):=by
 have hp:=(List.getElem?_eq_some_iff.1 h)
 obtain⟨hlt,rfl⟩:=hp
 rw [←List.drop_drop]
 generalize hd:s.drop p=t
 rw [List.drop_eq_getElem_cons hlt] at hd
 subst hd
 rw [wordsA,if_pos hb]
theorem run_len {s:Str}{p:Nat}:p+((s.drop p).takeWhile isW).length≤s.length∨s.length<p:=by
 have h1:=List.takeWhile_prefix isW (l:=s.drop p)
 have h2:=h1.length_le
 rw [List.length_drop] at h2
 omega
theorem run_at {s:Str}{p j:Nat}(hj:j<((s.drop p).takeWhile isW).length): ∃b,s[p+j]? =some b∧isW b=true∧((s.drop p).takeWhile isW)[j]? =some b:=by
 have h1:((s.drop p).takeWhile isW)[j]? =some ((s.drop p).takeWhile isW)[j]:=List.getElem?_eq_getElem hj
 refine⟨_,?_,?_,h1⟩
 ·have h2:=List.takeWhile_prefix isW (l:=s.drop p)
  have h3:=h2.getElem hj
  rw [←List.getElem?_drop,List.getElem?_eq_getElem (by have:=h2.length_le;omega),←h3]
 ·exact List.all_eq_true.1 List.all_takeWhile _ (List.getElem_mem hj)
theorem run_end {s:Str}{p:Nat}:s[p+((s.drop p).takeWhile isW).length]? =none∨∃b,s[p+((s.drop p).takeWhile isW).length]? =some b∧isW b=false:=by
 cases e:s[p+((s.drop p).takeWhile isW).length]? with
 | none=>exact .inl rfl
 | some b=>
  refine .inr ⟨b,rfl,?_⟩
  rw [←List.getElem?_drop] at e
  generalize s.drop p=t at e
  induction t with
  | nil=>simp at e
  | cons x r ih=>
   by_cases hx:isW x=true
   ·simp only [List.takeWhile_cons,hx,if_true,List.length_cons,List.getElem?_cons_succ] at e
    exact ih e
   ·simp only [List.takeWhile_cons,hx] at e
    simp at e
    subst e
    simpa using hx
theorem take_snoc {xs:List UInt8}{n:Nat}{x:UInt8}(h:xs.length<n):xs.take n++[x]=(xs++[x]).take n:=by
 rw [List.take_of_length_le (by omega),List.take_of_length_le (by simp;omega)]
theorem take_full {xs:List UInt8}{n:Nat}{x:UInt8}(h:n≤xs.length):(xs++[x]).take n=xs.take n:=by
 rw [List.take_append_of_le_length h]
theorem runs_take {f:UInt8→UInt8}{R:List UInt8}{j:Nat}{b:UInt8}(h:R[j]? =some b):(R.take (j+1)).map f=(R.take j).map f++[f b]:=by
 obtain⟨hlt,rfl⟩:=List.getElem?_eq_some_iff.1 h
 rw [List.take_succ_eq_append_getElem hlt,List.map_append];rfl
theorem whileM_eq {σ τ:Type}{f:σ→Option (σ⊕τ)}{t:τ}(Inv:Nat→σ→Prop)(n:Nat)
  (step: ∀i s,i<n→Inv i s→(∃s',f s=some (.inl s')∧Inv (i+1) s')∨f s=some (.inr t))
  (fin: ∀s,Inv n s→f s=some (.inr t))(k i:Nat)(s:σ)(F:Nat)(he:i+k=n)(hF:k<F)(hi:Inv i s):whileM f F s=some t:=by
 obtain⟨t',h1,rfl⟩:=whileM_run (Post:=fun t'=>t'=t) Inv n (fun i s hi hI=>(step i s hi hI).imp id fun h=>⟨t,h,rfl⟩) (fun s hI=>⟨t,fin s hI,rfl⟩) k i s F he hF hi
 exact h1
theorem impl_run (F:Nat)(s:Str)(p:Nat)(hp:p≤s.length)(hF:s.length+1<F)
  {f:Int×List UInt8→Option ((Int×List UInt8)⊕(Int×List UInt8))}
  (h1: ∀(q:Nat) (t:List UInt8) b,s[q]? =some b→isW b=true→t.length<12→f ((q:Int),t)=some (.inl (((q+1:Nat):Int),t++[lowB b])))
  (h1': ∀(q:Nat) (t:List UInt8) b,s[q]? =some b→isW b=true→¬t.length<12→f ((q:Int),t)=some (.inl (((q+1:Nat):Int),t)))
  (h2: ∀(q:Nat) (t:List UInt8),q≤s.length→(s[q]? =none∨∃b,s[q]? =some b∧isW b=false)→f ((q:Int),t)=some (.inr ((q:Int),t))):
  whileM f F ((p:Int),[])=some (((p+((s.drop p).takeWhile isW).length:Nat):Int),(((s.drop p).takeWhile isW).map lowB).take 12):=by
 have hrl:=run_len (s:=s) (p:=p)
 obtain⟨t,ht,e⟩:=whileM_run (f:=f) (Post:=fun t=>t=(((p+((s.drop p).takeWhile isW).length:Nat):Int),(((s.drop p).takeWhile isW).map lowB).take 12))
  (fun j st=>st=(((p+j:Nat):Int),((((s.drop p).takeWhile isW).take j).map lowB).take 12)) ((s.drop p).takeWhile isW).length
  (fun j st hj hi=>by
   subst hi
   obtain⟨b,hb,hw,hr⟩:=run_at hj
   refine .inl ⟨_,?_,rfl⟩
   by_cases hl:(((((s.drop p).takeWhile isW).take j).map lowB).take 12).length<12
   ·rw [h1 _ _ b hb hw hl]
    have:((((s.drop p).takeWhile isW).take j).map lowB).length<12:=by rw [List.length_take] at hl;omega
    rw [take_snoc this,←runs_take hr];rfl
   ·rw [h1' _ _ b hb hw hl]
    have:12≤((((s.drop p).takeWhile isW).take j).map lowB).length:=by rw [List.length_take] at hl;omega
    rw [runs_take (f:=lowB) hr,take_full this];rfl)
  (fun st hi=>by
   subst hi
   refine⟨_,h2 _ _ (by omega) run_end,?_⟩
   rw [List.take_of_length_le (Nat.le_refl _)]) ((s.drop p).takeWhile isW).length 0 ((p:Int),[]) F (by omega) (by omega) (by simp)
 rw [ht,e]
theorem spec_run (F:Nat)(s:Str)(p:Nat)(hp:p≤s.length)(hs:s.length≤2000000)(hF:s.length+1<F)
  {f:Int×List UInt8→Option ((Int×List UInt8)⊕(Int×List UInt8))}
  (h1: ∀(q:Nat) (t:List UInt8) b,s[q]? =some b→isW b=true→t.length≤2000000→f ((q:Int),t)=some (.inl (((q+1:Nat):Int),t++[lowB b])))
  (h2: ∀(q:Nat) (t:List UInt8),q≤s.length→(s[q]? =none∨∃b,s[q]? =some b∧isW b=false)→f ((q:Int),t)=some (.inr ((q:Int),t))):
  whileM f F ((p:Int),[])=some (((p+((s.drop p).takeWhile isW).length:Nat):Int),((s.drop p).takeWhile isW).map lowB):=by
 have hrl:=run_len (s:=s) (p:=p)
 obtain⟨t,ht,e⟩:=whileM_run (f:=f) (Post:=fun t=>t=(((p+((s.drop p).takeWhile isW).length:Nat):Int),((s.drop p).takeWhile isW).map lowB))
  (fun j st=>st=(((p+j:Nat):Int),(((s.drop p).takeWhile isW).take j).map lowB)) ((s.drop p).takeWhile isW).length
  (fun j st hj hi=>by
   subst hi
   obtain⟨b,hb,hw,hr⟩:=run_at hj
   refine .inl ⟨_,?_,rfl⟩
   rw [h1 _ _ b hb hw (by rw [List.length_map,List.length_take];omega),←runs_take hr];rfl)
  (fun st hi=>by
   subst hi
   refine⟨_,h2 _ _ (by omega) run_end,?_⟩
   rw [List.take_of_length_le (Nat.le_refl _)]) ((s.drop p).takeWhile isW).length 0 ((p:Int),[]) F (by omega) (by omega) (by simp)
 rw [ht,e]
theorem impl_words (F:Nat)(s:Str)(hs:s.length≤2000000)(hF:s.length+1<F):M.impl_WordsOf F s=some (if textS s then wordsS s else []):=by
 unfold M.impl_WordsOf
 rw [impl_text,Option.bind_some]
 cases ht:textS s
 ·rfl
 simp only [Bool.not_true,cond_false,if_true]
 have hg: ∀(q:Nat) b,s[q]? =some b→getI s (q:Int)=some b:=fun q b h=>by rw [getI_nat'];exact h
 have hlt: ∀(q:Nat) b,s[q]? =some b→decide ((q:Int)<(s.length:Int))=true:=fun q b h=>decide_eq_true (by have:=(List.getElem?_eq_some_iff.1 h).1;omega)
 rw [whileM_eq (t:=wordsS s) (fun i st=>∃(out:List GWord) (o:Nat),st=(out,(o:Int))∧i≤o∧o≤s.length∧out.length≤o∧out++wordsA (s.drop o) o out.length=wordsS s) s.length
  (fun i st hi ⟨out,o,e1,e2,e3,e4,e5⟩=>?_) (fun st ⟨out,o,e1,e2,e3,e4,e5⟩=>?_) s.length 0 (([]:List GWord),(0:Int)) F (by omega) (by omega) ⟨[],0,rfl,by omega,by omega,by simp,by simp [wordsS]⟩]
 ·rfl
 ·subst e1
  rcases Nat.lt_or_ge o s.length with hol | hol
  ·have hb:s[o]? =some s[o]:=List.getElem?_eq_getElem hol
   rw [hlt o _ hb,cond_true,hg o _ hb,Option.bind_some,impl_low,Option.bind_some,impl_byte,Option.bind_some]
   cases hw:isW s[o]
   ·rw [show wordB (lowB s[o])=false from hw]
    refine .inl ⟨(out,((o+1:Nat):Int)),?_,out,o+1,rfl,by omega,by omega,by omega,?_⟩
    ·rw [w64_succ' (by omega)];rfl
    ·rw [←e5,wordsA_skip hb hw]
   ·rw [show wordB (lowB s[o])=true from hw]
    have hrl:=run_len (s:=s) (p:=o)
    have hpos:0<((s.drop o).takeWhile isW).length:=by rw [List.drop_eq_getElem_cons hol,List.takeWhile_cons,if_pos hw];simp
    refine .inl ⟨(out++[⟨(((s.drop o).takeWhile isW).map lowB).take 12,(out.length:Int),(o:Int),((o+((s.drop o).takeWhile isW).length:Nat):Int)⟩],((o+((s.drop o).takeWhile isW).length:Nat):Int)),?_,_,_,rfl,by omega,by omega,by rw [List.length_append,List.length_singleton];omega,?_⟩
    ·simp only [Bool.not_true,cond_false]
     rw [impl_run F s o e3 hF ?_ ?_ ?_,Option.bind_some,Option.bind_some,catLok (by simp;omega)]
     ·rfl
     ·intro q t b hb hw hl
      rw [hlt q b hb,cond_true,hg q b hb,Option.bind_some,impl_low,Option.bind_some,impl_byte,Option.bind_some,Option.bind_some,show wordB (lowB b)=true from hw,cond_true,decide_eq_true (show (t.length:Int)<12 by omega),cond_true,Option.bind_some,impl_low,Option.bind_some,catLok (by simp;omega),Option.bind_some,w64_succ' (by have:=(List.getElem?_eq_some_iff.1 hb).1;omega)]
     ·intro q t b hb hw hl
      rw [hlt q b hb,cond_true,hg q b hb,Option.bind_some,impl_low,Option.bind_some,impl_byte,Option.bind_some,Option.bind_some,show wordB (lowB b)=true from hw,cond_true,decide_eq_false (show ¬(t.length:Int)<12 by omega),cond_false,w64_succ' (by have:=(List.getElem?_eq_some_iff.1 hb).1;omega)]
     ·intro q t hq hor
      rcases hor with hn | ⟨b,hb,hw⟩
      ·rw [decide_eq_false (show ¬(q:Int)<s.length by have:=List.getElem?_eq_none_iff.1 hn;omega)];rfl
      ·rw [hlt q b hb,cond_true,hg q b hb,Option.bind_some,impl_low,Option.bind_some,impl_byte,Option.bind_some,Option.bind_some,show wordB (lowB b)=false from hw];rfl
    ·rw [List.append_assoc,←e5,wordsA_word hb hw,List.length_append,List.length_singleton];rfl
  ·refine .inr ?_
   rw [decide_eq_false (by omega)]
   show some (Sum.inr out)=_
   rw [←e5,List.drop_of_length_le hol,wordsA_nil,List.append_nil]
 ·subst e1
  have:o=s.length:=by omega
  subst this
  rw [decide_eq_false (by omega)]
  show some (Sum.inr out)=_
  rw [←e5,List.drop_of_length_le (Nat.le_refl _),wordsA_nil,List.append_nil]
theorem spec_words (F:Nat)(s:Str)(hs:s.length≤2000000)(hF:s.length+2<F):M.spec_l1Words F s=some (wordsS s):=by
 unfold M.spec_l1Words
 have hg: ∀(q:Nat) b,s[q]? =some b→getI s (q:Int)=some b:=fun q b h=>by rw [getI_nat'];exact h
 have hlt: ∀(q:Nat) b,s[q]? =some b→decide ((q:Int)<(s.length:Int))=true:=fun q b h=>decide_eq_true (by have:=(List.getElem?_eq_some_iff.1 h).1;omega)
 have hrun: ∀(o:Nat),o≤s.length→_:=fun o ho=>spec_run F s o ho hs (by omega) (f:=fun (s55:Int×(List UInt8))=>(Option.bind ((cond (decide (s55.1<(s.length:Int))) (Option.bind (getI s s55.1) fun x81=>(Option.bind (M.spec_l1Fold F x81) fun r84=>(some (!(r84==(0:UInt8)))))) (some false)):Option Bool) fun o72=>(cond o72 (Option.bind (getI s s55.1) fun x94=>(Option.bind (M.spec_l1Fold F x94) fun r97=>(Option.bind (catL 1 s55.2 ([r97]:List UInt8)) fun x112=>(some (.inl ((w64 (s55.1+(1:Int))),x112)))))) (some (.inr (s55.1,s55.2))))))
  (fun q t b hb hw hl=>by
   show Option.bind _ _=_
   rw [hlt q b hb,cond_true,hg q b hb,Option.bind_some,spec_fold,Option.bind_some,Option.bind_some,show (!(foldB b==0))=true by rw [fold_isW];exact hw,cond_true,Option.bind_some,spec_fold,Option.bind_some,catLok (by simp;omega),Option.bind_some,w64_succ' (by have:=(List.getElem?_eq_some_iff.1 hb).1;omega),fold_low b hw])
  (fun q t hq hor=>by
   show Option.bind _ _=_
   rcases hor with hn | ⟨b,hb,hw⟩
   ·rw [decide_eq_false (show ¬(q:Int)<s.length by have:=List.getElem?_eq_none_iff.1 hn;omega)];rfl
   ·rw [hlt q b hb,cond_true,hg q b hb,Option.bind_some,spec_fold,Option.bind_some,Option.bind_some,show (!(foldB b==0))=false by rw [fold_isW];exact hw];rfl)
 rw [whileM_eq (t:=wordsS s) (fun i st=>∃(out:List GWord) (o:Nat),st=(out,(o:Int))∧i≤o∧o≤s.length+1∧out.length≤o∧out++wordsA (s.drop o) o out.length=wordsS s) s.length
  (fun i st hi ⟨out,o,e1,e2,e3,e4,e5⟩=>?_) (fun st ⟨out,o,e1,e2,e3,e4,e5⟩=>?_) s.length 0 (([]:List GWord),(0:Int)) F (by omega) (by omega) ⟨[],0,rfl,by omega,by omega,by simp,by simp [wordsS]⟩]
 ·rfl
 ·subst e1
  rcases Nat.lt_or_ge o s.length with hol | hol
  ·have hb:s[o]? =some s[o]:=List.getElem?_eq_getElem hol
   have hrl:=run_len (s:=s) (p:=o)
   rw [hlt o _ hb,cond_true,hrun o (by omega),Option.bind_some,Option.bind_some]
   simp only
   have hcut:(Option.bind ((cond (decide ((12:Int)<((((s.drop o).takeWhile isW).map lowB).length:Int))) (Option.bind (subL (((s.drop o).takeWhile isW).map lowB) 0 (12:Int)) fun x139=>(some x139)) (some (((s.drop o).takeWhile isW).map lowB))):Option (List UInt8)) fun x=>some x)=some ((((s.drop o).takeWhile isW).map lowB).take 12):=by
    by_cases hl:12<(((s.drop o).takeWhile isW).map lowB).length
    ·rw [decide_eq_true (by omega),cond_true,subL,if_pos (by omega)];rfl
    ·rw [decide_eq_false (by omega),cond_false,List.take_of_length_le (by omega)];rfl
   rw [show ∀o:Option (List UInt8),(Option.bind o fun x=>some x)=o from fun o=>by cases o<;>rfl] at hcut
   rw [hcut,Option.bind_some]
   cases hw:isW s[o]
   ·have hnil:(s.drop o).takeWhile isW=[]:=by rw [List.drop_eq_getElem_cons hol,List.takeWhile_cons,hw];simp
    rw [hnil]
    refine .inl ⟨(out,((o+1:Nat):Int)),?_,out,o+1,rfl,by omega,by omega,by omega,?_⟩
    ·simp only [List.map_nil,List.take_nil,List.length_nil,Nat.add_zero]
     rw [w64_succ' (by omega)];rfl
    ·rw [←e5,wordsA_skip hb hw]
   ·have hpos:0<((s.drop o).takeWhile isW).length:=by rw [List.drop_eq_getElem_cons hol,List.takeWhile_cons,if_pos hw];simp
    rw [decide_eq_true (by rw [List.length_take,List.length_map];omega),cond_true,catLok (by simp;omega),Option.bind_some,w64_succ' (by omega)]
    refine .inl ⟨_,rfl,_,_,rfl,by omega,by omega,by rw [List.length_append,List.length_singleton];omega,?_⟩
    have e9:wordsA (s.drop (o+((s.drop o).takeWhile isW).length+1)) (o+((s.drop o).takeWhile isW).length+1) (out.length+1)=wordsA (s.drop (o+((s.drop o).takeWhile isW).length)) (o+((s.drop o).takeWhile isW).length) (out.length+1):=by
     rcases run_end (s:=s) (p:=o) with hn | ⟨b,hb2,hw2⟩
     ·have:=List.getElem?_eq_none_iff.1 hn
      rw [List.drop_of_length_le (i:=o+((s.drop o).takeWhile isW).length+1) (by omega),List.drop_of_length_le (i:=o+((s.drop o).takeWhile isW).length) (by omega),wordsA_nil,wordsA_nil]
     ·exact(wordsA_skip hb2 hw2).symm
    rw [List.append_assoc,←e5,wordsA_word hb hw,List.length_append,List.length_singleton,e9];rfl
  ·refine .inr ?_
   rw [decide_eq_false (by omega)]
   show some (Sum.inr out)=_
   rw [←e5,List.drop_of_length_le hol,wordsA_nil,List.append_nil]
 ·subst e1
  rw [decide_eq_false (by omega)]
  show some (Sum.inr out)=_
  rw [←e5,List.drop_of_length_le (by omega),wordsA_nil,List.append_nil]
end Go.Fk
set_option linter.unusedVariables false
namespace Go.Fk
open Go
def ends:List Str:=[[105,110,103],[101,100],[101,115],[108,121],[115]]
def cutE (s e:Str):Bool:=decide (e.length+3≤s.length)&&(s.drop (s.length-e.length)==e)
def cutS (s e:Str):Str:=s.take (s.length-e.length)
def onceS (s:Str):Str:=(ends.find? (cutE s)).elim s (cutS s)
theorem ends_len {e:Str}(h:e∈ends):1≤e.length∧e.length≤3:=by
 simp only [ends,List.mem_cons,List.not_mem_nil,or_false] at h
 rcases h with rfl | rfl | rfl | rfl | rfl<;>decide
theorem once_cases (s:Str):(ends.find? (cutE s)=none∧onceS s=s)∨∃e,ends.find? (cutE s)=some e∧onceS s=cutS s e∧1≤e.length∧e.length+3≤s.length:=by
 unfold onceS
 cases h:ends.find? (cutE s) with
 | none=>exact .inl ⟨rfl,rfl⟩
 | some e=>
  have h1:=List.find?_some h
  have h2:=ends_len (List.mem_of_find?_eq_some h)
  simp only [cutE,Bool.and_eq_true,decide_eq_true_iff] at h1
  exact .inr ⟨e,rfl,rfl,h2.1,h1.1⟩
theorem once_shorter {s:Str}(h:onceS s≠s):(onceS s).length<s.length:=by
 rcases once_cases s with ⟨_,h1⟩ | ⟨e,_,h1,h2,h3⟩
 ·exact absurd h1 h
 ·rw [h1,cutS,List.length_take];omega
theorem once_ne {s e:Str}(h:ends.find? (cutE s)=some e):onceS s≠s:=by
 rcases once_cases s with ⟨h0,_⟩ | ⟨e',h1,h2,h3,h4⟩
 ·rw [h] at h0;cases h0
 ·intro h5
  have:=congrArg List.length h5
  rw [h2,cutS,List.length_take] at this;omega
theorem once_len (s:Str):(onceS s).length≤s.length:=by
 rcases once_cases s with ⟨_,h1⟩ | ⟨e,_,h1,h2,h3⟩
 ·rw [h1];exact Nat.le_refl _
 ·rw [h1,cutS,List.length_take];omega
def stemS (s:Str):Str:=if h:onceS s=s then s else stemS (onceS s)
termination_by s.length
decreasing_by exact once_shorter h
theorem stem_done {s:Str}(h:onceS s=s):stemS s=s:=by rw [stemS,dif_pos h]
theorem stem_go {s:Str}(h:onceS s≠s):stemS s=stemS (onceS s):=by rw [stemS,dif_neg h]
theorem stem_ind {P:Str→Str→Prop}(h0: ∀s,onceS s=s→P s s)(h1: ∀s t,onceS s≠s→P (onceS s) t→P s t): ∀s,P s (stemS s):=by
 intro s
 induction hn:s.length using Nat.strongRecOn generalizing s with
 | _ n ih=>
  subst hn
  by_cases h:onceS s=s
  ·rw [stem_done h];exact h0 s h
  ·rw [stem_go h];exact h1 s _ h (ih _ (once_shorter h) _ rfl)
theorem stem_len (s:Str):(stemS s).length≤s.length:=stem_ind (P:=fun s t=>t.length≤s.length) (fun s _=>Nat.le_refl _) (fun s t _ h=>Nat.le_trans h (once_len s)) s
theorem subS_all {s:Str}{k:Nat}(h:k≤s.length):subS s (k:Int) s.length=some (s.drop k):=by
 rw [subS,if_pos (by omega)]
 simp
theorem subS_to {s:Str}{k:Nat}(h:k≤s.length):subS s 0 (k:Int)=some (s.take k):=by
 rw [subS,if_pos (by omega)]
 simp
theorem hasSuffix (F:Nat)(s e:Str)(hs:s.length≤2000000):M.strings_HasSuffix F s e=some (decide (e.length≤s.length)&&(s.drop (s.length-e.length)==e)):=by
 unfold M.strings_HasSuffix M.stringslite_HasSuffix
 by_cases h:e.length≤s.length
 ·rw [decide_eq_true (show (e.length:Int)≤s.length by omega),cond_true,decide_eq_true h,w64_of ⟨by omega,by omega⟩,show (s.length:Int)-e.length=((s.length-e.length:Nat):Int) by omega,subS_all (by omega)]
  rfl
 ·rw [decide_eq_false (show ¬(e.length:Int)≤s.length by omega),cond_false,decide_eq_false h]
  rfl
theorem cut_alt (s e:Str):((decide (e.length≤s.length)&&(s.drop (s.length-e.length)==e))&&decide (e.length+3≤s.length))=cutE s e:=by
 unfold cutE
 by_cases h:e.length+3≤s.length
 ·rw [decide_eq_true h,decide_eq_true (show e.length≤s.length by omega)];simp
 ·rw [decide_eq_false h];simp
theorem spec_ends (F:Nat):M.spec_l2Ends F=some ends:=rfl
theorem spec_once (F:Nat)(s:Str)(hs:s.length≤2000000)(hF:5<F):M.spec_l2Once F s=some (onceS s):=by
 unfold M.spec_l2Once
 rw [find_while (xs:=ends) (cutE s) (fun e=>Sum.inr (cutS s e)) (e:=Sum.inl ()) F hF (fun i e he=>?_) ?_]
 ·unfold onceS
  cases ends.find? (cutE s)<;>rfl
 ·rw [spec_ends,Option.bind_some,decide_eq_false (by omega)];rfl
 ·have hi:=(List.getElem?_eq_some_iff.1 he).1
  have hel:=ends_len (List.mem_of_getElem? he)
  rw [spec_ends,Option.bind_some,decide_eq_true (by omega),cond_true,Option.bind_some,getI_nat',he,Option.bind_some]
  have hw:w64 ((s.length:Int)-(e.length:Int))=(s.length:Int)-e.length:=w64_of ⟨by omega,by omega⟩
  rw [hw]
  unfold cutE
  by_cases h:e.length+3≤s.length
  ·rw [decide_eq_true (show (3:Int)≤(s.length:Int)-e.length by omega),cond_true,decide_eq_true h,show (s.length:Int)-e.length=((s.length-e.length:Nat):Int) by omega,subS_all (by omega),Option.bind_some,Option.bind_some,Bool.true_and]
   cases s.drop (s.length-e.length)==e
   ·rw [cond_false,w64_succ' (by have:ends.length=5:=rfl;omega)];rfl
   ·rw [cond_true,subS_to (by omega)];rfl
  ·rw [decide_eq_false (show ¬(3:Int)≤(s.length:Int)-e.length by omega),cond_false,decide_eq_false h,Option.bind_some,cond_false,w64_succ' (by have:ends.length=5:=rfl;omega)];rfl
theorem spec_stem (F:Nat)(s:Str)(hs:s.length≤2000000)(hF:s.length+6<F):M.spec_l2Stem F s=some (stemS s):=by
 have key: ∀(G:Nat) (t:Str),t.length<G→t.length≤2000000→whileM (σ:=Str) (τ:=Str) (fun (s10:Str)=>(Option.bind (M.spec_l2Once F s10) fun r22=>(cond (!(r22==s10)) (Option.bind (M.spec_l2Once F s10) fun r33=>(some (.inl r33))) (some (.inr s10))))) G t=some (stemS t):=by
  intro G
  induction G with
  | zero=>intro t h;omega
  | succ G ih=>
   intro t h ht
   rw [whileM,spec_once F t ht (by omega),Option.bind_some]
   by_cases he:onceS t=t
   ·rw [he,stem_done he];simp
   ·rw [stem_go he,show (onceS t==t)=false from by simpa using he]
    simp only [Bool.not_false,cond_true,Option.bind_some,Sum.elim_inl]
    exact ih _ (by have:=once_shorter he;omega) (by have:=once_shorter he;omega)
 unfold M.spec_l2Stem
 rw [key F s (by omega) hs];rfl
theorem stem_loop {f:Str×Bool→Option ((Str×Bool)⊕Str)}(h1: ∀t:Str,t.length≤2000000→f (t,true)=some (.inl (onceS t,!(onceS t==t))))(h2: ∀t,f (t,false)=some (.inr t)):
  ∀(G:Nat) (t:Str),t.length+1<G→t.length≤2000000→whileM f G (t,true)=some (stemS t):=by
 intro G
 induction G with
 | zero=>intro t h;omega
 | succ G ih=>
  intro t h ht
  rw [whileM,h1 t ht,Option.bind_some]
  by_cases he:onceS t=t
  ·rw [he,stem_done he]
   obtain⟨G,rfl⟩: ∃H,G=H+1:=⟨G-1,by omega⟩
   rw [show (!(t==t))=false from by simp]
   simp only [Sum.elim_inl]
   rw [whileM,h2];rfl
  ·rw [stem_go he,show (onceS t==t)=false from by simpa using he]
   exact ih _ (by have:=once_shorter he;omega) (by have:=once_shorter he;omega)
theorem impl_stem (F:Nat)(s:Str)(hs:s.length≤2000000)(hF:s.length+6<F):M.impl_StemOf F s=some (if wordS s then stemS s else []):=by
 unfold M.impl_StemOf
 rw [impl_word,Option.bind_some]
 cases hw:wordS s
 ·rfl
 simp only [Bool.not_true,cond_false,if_true]
 rw [stem_loop (fun t ht=>?_) (fun t=>?_) F s (by omega) hs]
 ·rfl
 ·rw [cond_true]
  rw [show ([([105,110,103]:Str),([101,100]:Str),([101,115]:Str),([108,121]:Str),([115]:Str)]:List Str)=ends from rfl,find_from (xs:=ends) (cutE t) (fun e=>(cutS t e,true)) (fun i e he=>?_)]
  ·cases h:ends.find? (cutE t) with
   | none=>
    have:onceS t=t:=by unfold onceS;rw [h];rfl
    simp [this]
   | some e=>
    have h1:=once_ne h
    have h2:onceS t=cutS t e:=by unfold onceS;rw [h];rfl
    rw [show (onceS t==t)=false from by simpa using h1,h2];rfl
  ·have hel:=ends_len (List.mem_of_getElem? he)
   have hww:w64 ((t.length:Int)-(e.length:Int))=(t.length:Int)-e.length:=w64_of ⟨by omega,by omega⟩
   rw [getI_nat',he,Option.bind_some]
   simp only
   rw [hasSuffix F t e ht,Option.bind_some,hww,←cut_alt]
   cases hq:(decide (e.length≤t.length)&&(t.drop (t.length-e.length)==e))
   ·rfl
   ·rw [cond_true,Option.bind_some,Bool.true_and]
    by_cases h:e.length+3≤t.length
    ·rw [decide_eq_true (show (3:Int)≤(t.length:Int)-e.length by omega),decide_eq_true h,cond_true,show (t.length:Int)-e.length=((t.length-e.length:Nat):Int) by omega,subS_to (by omega)];rfl
    ·rw [decide_eq_false (show ¬(3:Int)≤(t.length:Int)-e.length by omega),decide_eq_false h];rfl
 ·rfl
end Go.Fk
set_option linter.unusedVariables false
namespace Go.Fk
open Go
theorem spec_has (F:Nat)(xs:List Str)(v:Str)(hl:xs.length≤2000000)(hF:xs.length<F):M.spec_l2Has F xs v=some (xs.any (· ==v)):=by
 unfold M.spec_l2Has
 rw [find_while (xs:=xs) (fun x=>x==v) (fun _=>Sum.inr true) (e:=Sum.inl ()) F hF (fun i x hx=>?_) ?_]
 ·rw [←List.isSome_find?]
  cases xs.find? (· ==v)<;>rfl
 ·rw [decide_eq_false (by omega)];rfl
 ·have hi:=(List.getElem?_eq_some_iff.1 hx).1
  rw [decide_eq_true (by omega),cond_true,getI_nat',hx,Option.bind_some,w64_succ' (by omega)]
  cases x==v<;>rfl
theorem str_beq (a b:Str):(a==b)=(b==a):=by
 rw [Bool.eq_iff_iff];simp only [beq_iff_eq];exact eq_comm
theorem impl_contains (F:Nat)(xs:List Str)(v:Str):M.slices_Contains_string F xs v=some (xs.any (· ==v)):=by
 unfold M.slices_Contains_string M.slices_Index_string
 rw [idx_from (xs:=xs) (fun x=>x==v) (fun i x hx=>?_)]
 ·rw [←idx_ge]
  cases xs.findIdx? (· ==v)<;>rfl
 ·rw [getI_nat',hx,Option.bind_some,str_beq v x]
  cases x==v<;>rfl
def fromOk (stops:List Str)(w:Str):Bool:=wordS w&&((stemS w==w)&& !stops.any (· ==w))
def synOk (stops:List Str)(r:GSyn):Bool:=((decide ((1:Int)≤r.From.length)&&decide ((r.From.length:Int)≤3))&&(wordS r.To&&(stemS r.To==r.To)))&&r.From.all (fromOk stops)
def ascS (xs:List Str):Bool:=pairS wordS strLess xs
def confS (c:GConf):Bool:=(decide ((c.Stops.length:Int)≤6)&&ascS c.Stops&&decide ((c.Syns.length:Int)≤4))&&c.Syns.all (synOk c.Stops)
structure ConfFit (B:Nat)(c:GConf):Prop where
 stops:c.Stops.length≤B∧∀s∈c.Stops,s.length≤B
 syns:c.Syns.length≤B∧∀r∈c.Syns,r.From.length≤B∧r.To.length≤B∧∀w∈r.From,w.length≤B
theorem word_le {s:Str}(h:wordS s=true):s.length≤12:=by
 simp only [wordS,Bool.and_eq_true,decide_eq_true_iff] at h
 exact h.2.2
theorem impl_asc (F:Nat)(xs:List Str)(hl:xs.length≤2000000):M.impl_wordsAscend F xs=some (ascS xs):=by
 unfold M.impl_wordsAscend ascS
 rw [pair_from (ok:=wordS) (lt:=strLess) (xs:=xs) (fun i x hx=>?_)]
 ·cases pairS wordS strLess xs<;>rfl
 ·have hi:=(List.getElem?_eq_some_iff.1 hx).1
  rw [getI_nat',hx,Option.bind_some,impl_word,Option.bind_some]
  cases wordS x
  ·rfl
  ·simp only [Bool.not_true,cond_false,Bool.true_and]
   rcases Nat.eq_zero_or_pos i with rfl | hp
   ·rfl
   ·rw [decide_eq_true (by omega),cond_true,w64_pred hp (by omega),getI_nat',decide_eq_false (by omega),Bool.false_or]
    have h1:i-1<xs.length:=by omega
    rw [List.getElem?_eq_getElem h1]
    simp only [Option.bind_some,Option.elim_some]
    exact(show ∀b:Bool,(bif !b then some (Sum.inr false) else some (Sum.inl ()))=some (if b=true then Sum.inl () else Sum.inr false) from fun b=>by cases b<;>rfl) _
theorem stem_in (F:Nat)(s:Str)(h:wordS s=true)(hF:20<F):M.impl_StemOf F s=some (stemS s):=by
 rw [impl_stem F s (by have:=word_le h;omega) (by have:=word_le h;omega),h];rfl
theorem impl_conf (F:Nat)(c:GConf)(h1:c.Stops.length≤2000000)(hF:20<F):M.impl_ConfOk F c=some (confS c):=by
 unfold M.impl_ConfOk confS
 rw [impl_asc F _ h1]
 by_cases h6:(c.Stops.length:Int)≤6
 case neg=>
  rw [decide_eq_false h6,decide_eq_true (by omega)];rfl
 rw [decide_eq_true h6,decide_eq_false (by omega),cond_false,Option.bind_some]
 cases ascS c.Stops
 ·rfl
 simp only [Bool.not_true,cond_false,Option.bind_some,Bool.true_and]
 by_cases h4:(c.Syns.length:Int)≤4
 case neg=>
  rw [decide_eq_false h4,decide_eq_true (by omega)];rfl
 rw [decide_eq_true h4,decide_eq_false (by omega),cond_false,Bool.true_and]
 rw [all_from (p:=synOk c.Stops) (xs:=c.Syns) (fun i r hr=>?_) c.Syns.length 0 (by omega),List.drop_zero]
 ·cases c.Syns.all (synOk c.Stops)<;>rfl
 ·rw [getI_nat',hr,Option.bind_some,withinS,Option.bind_some,synOk]
  cases decide ((1:Int)≤r.From.length)&&decide ((r.From.length:Int)≤3)
  ·rfl
  simp only [Bool.not_true,cond_false,Bool.true_and]
  rw [impl_word,Option.bind_some]
  cases hw:wordS r.To
  ·rfl
  simp only [Bool.not_true,cond_false,Bool.true_and]
  rw [stem_in F _ hw hF,Option.bind_some,Option.bind_some]
  cases stemS r.To==r.To
  ·rfl
  simp only [Bool.not_true,cond_false,Bool.true_and]
  rw [all_from (p:=fromOk c.Stops) (xs:=r.From) (fun j w hj=>?_) r.From.length 0 (by omega),List.drop_zero]
  ·cases r.From.all (fromOk c.Stops)<;>rfl
  ·rw [getI_nat',hj,Option.bind_some,impl_word,Option.bind_some,fromOk]
   cases hw2:wordS w
   ·rfl
   simp only [Bool.not_true,cond_false,Bool.true_and]
   rw [stem_in F _ hw2 hF,Option.bind_some]
   cases stemS w==w
   ·rfl
   simp only [Bool.not_true,cond_false,Bool.true_and]
   rw [impl_contains,Option.bind_some,Option.bind_some]
   cases c.Stops.any (· ==w)<;>rfl
theorem spec_word' (F:Nat)(s:Str)(B:Nat)(hs:s.length≤B)(hB:B≤2000000)(hF:B+20<F):M.spec_l1WordOk F s=some (wordS s):=
 spec_word F s (by omega) (by have h0:2000000≤maxLen:=(by decide);omega)
theorem spec_asc {xs:List Str}{F B:Nat}(hl:xs.length≤B)(hs: ∀s∈xs,s.length≤B)(hB:B≤2000000)(hF:B+20<F){f:Int→Option (Int⊕(Unit⊕Bool))}
  (h: ∀s:Int,f s=(cond (decide (s<(xs.length:Int))) (Option.bind ((Option.bind (getI xs s) fun x42=>(Option.bind (M.spec_l1WordOk F x42) fun r52=>(cond (!r52) (some true) (cond (decide ((0:Int)<s)) (Option.bind (getI xs s) fun x67=>(Option.bind (getI xs (w64 (s-(1:Int)))) fun x77=>(some (strLess x67 x77||x67==x77)))) (some false))))):Option Bool) fun o35=>(cond o35 (some (.inr (.inr false))) (some (.inl (w64 (s+(1:Int))))))) (some (.inr (.inl ()))))):
  whileM f F (0:Int)=some (if ascS xs then .inl () else .inr false):=by
 refine pair_while (ok:=wordS) (lt:=strLess) (xs:=xs) (fun i x hx=>?_) ?_ F (by omega)
 ·have hi:=(List.getElem?_eq_some_iff.1 hx).1
  rw [h,decide_eq_true (by omega),cond_true,getI_nat',hx,Option.bind_some,spec_word' F x B (hs x (List.mem_of_getElem? hx)) hB hF,Option.bind_some]
  cases wordS x
  ·rfl
  ·simp only [Bool.not_true,cond_false,Bool.true_and]
   rw [w64_succ' (by omega)]
   rcases Nat.eq_zero_or_pos i with rfl | hp
   ·rfl
   ·rw [decide_eq_true (by omega),cond_true,Option.bind_some,w64_pred hp (by omega),getI_nat',decide_eq_false (by omega),Bool.false_or]
    have h1:i-1<xs.length:=by omega
    rw [List.getElem?_eq_getElem h1]
    simp only [Option.bind_some,Option.elim_some]
    have:=lessTotal xs[i-1] x
    rw [←this]
    exact(show ∀b:Bool,(bif !b then some (Sum.inr (Sum.inr false)) else some (Sum.inl ((i+1:Nat):Int)))=some (if b=true then Sum.inl ((i+1:Nat):Int) else Sum.inr (Sum.inr false)) from fun b=>by cases b<;>rfl) _
 ·rw [h,decide_eq_false (by omega)];rfl
theorem spec_conf (F B:Nat)(c:GConf)(hc:ConfFit B c)(hB:B≤2000000)(hF:B+30<F):M.spec_l2Ok F c=some (confS c):=by
 obtain⟨⟨h1,h2⟩,h3,h4⟩:=hc
 unfold M.spec_l2Ok confS
 rw [spec_asc (xs:=c.Stops) (B:=B) h1 h2 hB (by omega) (fun _=>rfl),Option.bind_some]
 cases ascS c.Stops
 ·simp only [Bool.and_false,Bool.false_and];rfl
 rw [if_pos rfl]
 simp only [Bool.and_true]
 show Option.bind _ _=_
 show Option.bind _ _=_
 rw [all_while0 (synOk c.Stops) (xs:=c.Syns) F (by omega) (fun i r hr=>?_) ?_,Option.bind_some]
 ·cases c.Syns.all (synOk c.Stops)
  ·simp only [Bool.and_false];rfl
  ·rw [if_pos rfl]
   simp only [Bool.and_true]
   show cond _ _ _=_
   cases decide ((c.Stops.length:Int)≤6)<;>rfl
 ·rw [decide_eq_false (by omega)];rfl
 ·have hi:=(List.getElem?_eq_some_iff.1 hr).1
  obtain⟨g1,g2,g3⟩:=h4 r (List.mem_of_getElem? hr)
  rw [decide_eq_true (by omega),cond_true,getI_nat',hr,Option.bind_some]
  rw [all_while0 (fromOk c.Stops) (xs:=r.From) F (by omega) (fun j w hj=>?_) ?_,Option.bind_some,synOk]
  ·cases r.From.all (fromOk c.Stops)
   ·simp only [Bool.and_false];rfl
   ·rw [if_pos rfl]
    simp only [Bool.and_true]
    show Option.bind _ _=_
    rw [inS,Option.bind_some,w64_succ' (by omega)]
    cases decide ((1:Int)≤r.From.length)&&decide ((r.From.length:Int)≤3)
    ·rfl
    simp only [Bool.not_true,cond_false,Bool.true_and]
    rw [spec_word' F r.To B g2 hB (by omega),Option.bind_some]
    cases hw:wordS r.To
    ·rfl
    simp only [Bool.not_true,cond_false,Bool.true_and]
    rw [spec_stem F r.To (by omega) (by omega),Option.bind_some,Option.bind_some]
    cases stemS r.To==r.To<;>rfl
  ·rw [decide_eq_false (by omega)];rfl
  ·have hj2:=(List.getElem?_eq_some_iff.1 hj).1
   have hwl:=g3 w (List.mem_of_getElem? hj)
   rw [decide_eq_true (by omega),cond_true,getI_nat',hj,Option.bind_some,spec_word' F w B hwl hB (by omega),Option.bind_some,fromOk,w64_succ' (by omega)]
   cases hw2:wordS w
   ·rfl
   simp only [Bool.not_true,cond_false,Bool.true_and]
   rw [Option.bind_some,spec_stem F w (by omega) (by omega),Option.bind_some,Option.bind_some]
   cases stemS w==w
   ·rfl
   simp only [Bool.not_true,cond_false,Bool.true_and]
   rw [Option.bind_some,spec_has F c.Stops w (by omega) (by omega),Option.bind_some,Option.bind_some]
   cases c.Stops.any (· ==w)<;>rfl
end Go.Fk
