/-
  The best of lists: the program's and the reference's are the plain one. Of no program.
-/
import Derived.Test.YtepcfgnicnibnaaLawHits
namespace Go.Fk
open Go
def docIn (l:List GHit)(id:Int):Bool:=l.any fun h=>h.Doc==id
theorem hasDoc_ok (F:Nat)(l:List GHit)(id:Int):M.impl_hasDoc F l id=some (docIn l id):=by
 unfold M.impl_hasDoc M.slices_ContainsFunc_Hit__impl_hasDoc_1 M.slices_IndexFunc_Hit__impl_hasDoc_1 docIn
 have key: ∀(f:Nat→Unit→Option (Unit⊕Int)),(∀i x,l[i]? =some x→f i ()=some (if x.Doc==id then .inr ((i:Nat):Int) else .inl ()))→∀k i,i+k=l.length→
   ∃r,forFrom f k i ()=some r∧(match r with | .inl _=>(l.drop i).any (fun h=>h.Doc==id)=false | .inr z=>0≤z∧(l.drop i).any (fun h=>h.Doc==id)=true):=by
  intro f hf k
  induction k with
  | zero=>
   intro i e
   refine⟨.inl (),rfl,?_⟩
   rw [List.drop_eq_nil_of_le (by omega)];rfl
  | succ k ih=>
   intro i e
   have hi:i<l.length:=by omega
   rw [forFrom,hf i l[i] (List.getElem?_eq_getElem hi),List.drop_eq_getElem_cons hi,List.any_cons]
   cases h:l[i].Doc==id with
   | true=>exact⟨.inr (i:Int),rfl,by simp⟩
   | false=>
    obtain⟨r,h1,h2⟩:=ih (i+1) (by omega)
    refine⟨r,?_,?_⟩
    ·simpa using h1
    ·simpa using h2
 obtain⟨r,h1,h2⟩:=key (fun (i:Nat) (_:Unit)=>Option.bind (getI l (i:Int)) fun x=>Option.bind (M.impl_hasDoc_1 F x id) fun b=>cond b (some (.inr (i:Int))) (some (.inl ()))) (fun i x hx=>by
  show Option.bind _ _=_
  rw [getI_nat',hx,Option.bind_some]
  unfold M.impl_hasDoc_1
  rw [Option.bind_some]
  cases x.Doc==id<;>rfl) l.length 0 (by omega)
 rw [List.drop_zero] at h2
 rw [h1]
 cases r with
 | inl u=>
  simp only at h2
  rw [h2];rfl
 | inr z=>
  simp only at h2
  rw [h2.2]
  simp [h2.1]
def hitP (l:List GHit)(q:GHit×Nat):Bool:=
 (decide (1≤q.1.Doc)&&decide (q.1.Doc≤9999))&&(!decide (q.1.Points<1)&&(!docIn (l.take q.2) q.1.Doc&&(decide (q.2=0)||((l[q.2-1]?).elim true fun g=>lessH g q.1))))
def hitsS (l:List GHit):Bool:=l.zipIdx.all (hitP l)&&decide ((l.length:Int)≤16)
theorem subL_take {α:Type}{l:List α}{i:Nat}(h:i≤l.length):subL l 0 (i:Int)=some (l.take i):=by
 unfold subL
 rw [if_pos ⟨by omega,by omega,by omega⟩]
 simp
structure Hits (l:List GHit):Prop where
 rng: ∀h∈l,(1≤h.Doc∧h.Doc≤9999)∧1≤h.Points
 sorted:SortedH l
 docs:l.Pairwise fun a b=>a.Doc≠b.Doc
 few:l.length≤16
theorem hits_iff (l:List GHit):hitsS l=true↔Hits l:=by
 unfold hitsS
 rw [Bool.and_eq_true,decide_eq_true_iff,List.all_eq_true]
 constructor
 ·rintro⟨h,hl⟩
  have hat: ∀i,(hi:i<l.length)→hitP l (l[i],i)=true:=fun i hi=>h (l[i],i) (by
   rw [List.mem_iff_getElem?]
   exact⟨i,by rw [List.getElem?_zipIdx,List.getElem?_eq_getElem hi];simp⟩)
  have hat': ∀i,(hi:i<l.length)→(1≤l[i].Doc∧l[i].Doc≤9999)∧1≤l[i].Points∧docIn (l.take i) l[i].Doc=false∧(i=0∨((l[i-1]?).elim true fun g=>lessH g l[i])=true):=fun i hi=>by
   have:=hat i hi
   unfold hitP at this
   simp only [Bool.and_eq_true,Bool.or_eq_true,decide_eq_true_iff,Bool.not_eq_true',decide_eq_false_iff_not] at this
   exact⟨this.1,by omega,this.2.2.1,this.2.2.2⟩
  have hadj: ∀l:List GHit,(∀i,(hi:i+1<l.length)→lessH l[i] l[i+1]=true)→SortedH l:=by
   intro l
   induction l with
   | nil=>intro _;exact List.Pairwise.nil
   | cons a l ih=>
    intro hl
    have ih':=ih (fun i hi=>by have:=hl (i+1) (by simp only [List.length_cons];omega);simpa using this)
    refine List.pairwise_cons.2 ⟨fun c hc=>?_,ih'⟩
    cases l with
    | nil=>cases hc
    | cons b l=>
     have hab:lessH a b=true:=hl 0 (by simp)
     rcases List.mem_cons.1 hc with rfl | hc
     ·exact hab
     ·exact lessH_trans hab ((List.pairwise_cons.1 ih').1 c hc)
  refine⟨fun x hx=>?_,hadj l fun i hi=>?_,?_,by omega⟩
  ·obtain⟨i,hi,rfl⟩:=List.mem_iff_getElem.1 hx
   have:=hat' i hi
   exact⟨this.1,this.2.1⟩
  ·have:=(hat' (i+1) hi).2.2.2
   rw [Nat.add_sub_cancel,List.getElem?_eq_getElem (show i<l.length by omega)] at this
   exact this.resolve_left (by omega)
  ·rw [List.pairwise_iff_getElem]
   intro i j hi hj hij e
   have:=(hat' j hj).2.2.1
   unfold docIn at this
   rw [List.any_eq_false] at this
   have hm:l[i]∈l.take j:=by
    rw [List.mem_iff_getElem?]
    exact⟨i,by rw [List.getElem?_take,if_pos hij,List.getElem?_eq_getElem hi]⟩
   have:=this _ hm
   rw [e] at this
   simp at this
 ·rintro⟨h1,h2,h3,h4⟩
  refine⟨fun q hq=>?_,by omega⟩
  obtain⟨i,hi⟩:=List.mem_iff_getElem?.1 hq
  obtain⟨hx,hqi⟩:=zipAt hi
  have hlt:=(List.getElem?_eq_some_iff.1 hx).1
  have he:=(List.getElem?_eq_some_iff.1 hx).2
  obtain⟨r1,r2⟩:=h1 q.1 (List.mem_of_getElem? hx)
  unfold hitP
  rw [hqi]
  simp only [Bool.and_eq_true,Bool.or_eq_true,decide_eq_true_iff,Bool.not_eq_true',decide_eq_false_iff_not]
  refine⟨r1,by omega,?_,?_⟩
  ·unfold docIn
   rw [List.any_eq_false]
   intro y hy
   obtain⟨k,hk⟩:=List.mem_iff_getElem?.1 hy
   have hk1:=(List.getElem?_eq_some_iff.1 hk).1
   rw [List.length_take] at hk1
   rw [List.getElem?_take,if_pos (by omega)] at hk
   have hk2:=(List.getElem?_eq_some_iff.1 hk).2
   have:=List.pairwise_iff_getElem.1 h3 k i (by omega) hlt (by omega)
   rw [hk2,he] at this
   simpa using this
  ·by_cases h0:i=0
   ·exact .inl h0
   ·refine .inr ?_
    rw [List.getElem?_eq_getElem (show i-1<l.length by omega)]
    have:=List.pairwise_iff_getElem.1 h2 (i-1) i (by omega) hlt (by omega)
    rw [he] at this
    exact this
def apartS (acc l:List GHit):Bool:=l.all fun h=> !docIn acc h.Doc
def mergeL:List (List GHit)→List GHit→Option (List GHit)
 | [],acc=>some acc
 | l::ls,acc=>if hitsS l&&apartS acc l then mergeL ls (acc++l) else none
theorem mergeL_spec: ∀{lists:List (List GHit)} {acc all:List GHit},mergeL lists acc=some all→acc.Pairwise (fun a b=>a.Doc≠b.Doc)→(∀h∈acc,(1≤h.Doc∧h.Doc≤9999)∧1≤h.Points)→
  all=acc++lists.flatten∧all.Pairwise (fun a b=>a.Doc≠b.Doc)∧∀h∈all,(1≤h.Doc∧h.Doc≤9999)∧1≤h.Points
 | [],acc,all,h,hp,hr=>by
  simp only [mergeL,Option.some.injEq] at h
  subst h
  exact⟨by simp,hp,hr⟩
 | l::ls,acc,all,h,hp,hr=>by
  rw [mergeL] at h
  split at h
  ·rename_i hc
   rw [Bool.and_eq_true] at hc
   have hh:=(hits_iff l).1 hc.1
   have:=mergeL_spec h (List.pairwise_append.2 ⟨hp,hh.docs,fun a ha b hb e=>by
    have h1:=(List.all_eq_true.1 hc.2) b hb
    simp only [Bool.not_eq_true',docIn,List.any_eq_false] at h1
    have:=h1 a ha
    rw [e] at this
    simp at this⟩) (fun x hx=>by
    rcases List.mem_append.1 hx with hx | hx
    ·exact hr x hx
    ·exact hh.rng x hx)
   refine⟨?_,this.2⟩
   rw [this.1,List.flatten_cons,List.append_assoc]
  ·cases h
theorem nodup_docs {l:List GHit}(h:l.Pairwise fun a b=>a.Doc≠b.Doc):l.Nodup:=h.imp fun {a b} hab e=>hab (by rw [e])
theorem dec_gt (a b:Int):decide (b<a)= !decide (a≤b):=by
 by_cases h:b<a
 ·rw [decide_eq_true h,decide_eq_false (by omega)];rfl
 ·rw [decide_eq_false h,decide_eq_true (by omega)];rfl
end Go.Fk
