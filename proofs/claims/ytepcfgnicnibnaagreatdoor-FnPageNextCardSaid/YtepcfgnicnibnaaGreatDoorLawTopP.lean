/-
  The best of those that are of a kind. Lists, and the reference's loop.
-/
import Derived.Test.YtepcfgnicnibnaaGreatDoorLawTopR
set_option linter.unusedVariables false
namespace Go.Fk
open Go
def b34 (c:u5)(s:A7)(d:Nat)(q:r5)(x:y5):B0:=⟨x.Id,D1 c s d q x⟩
def a5k (c:u5)(s:A7)(d:Nat)(q:r5)(p:B0→Bool)(l:List y5):List B0:=(l.flatMap (a4J c s d q)).filter p
theorem c0h (c:u5)(s:A7)(d:Nat)(q:r5)(p:B0→Bool)(l:List y5):(a5k c s d q p l).length≤l.length:=by
 have h1:=W3 (g:=a4J c s d q) (m:=1) l fun x _=>a9H c s d q x
 have h2:=List.length_filter_le p (l.flatMap (a4J c s d q))
 unfold a5k;omega
theorem b76 (c:u5)(s:A7)(d:Nat)(q:r5)(p:B0→Bool)(l:List y5)(x:y5):a5k c s d q p (l++[x])=a5k c s d q p l++if decide (0<D1 c s d q x)&&p (b34 c s d q x) then [b34 c s d q x] else []:=by
 unfold a5k
 rw [List.flatMap_append,List.flatMap_singleton,List.filter_append]
 congr 1
 unfold a4J
 by_cases h:0<D1 c s d q x
 ·rw [b8 h,if_pos rfl,q8]
  show [b34 c s d q x].filter p=_
  cases hp:p (b34 c s d q x) with
  | true=>rw [List.filter_cons_of_pos hp,if_pos rfl];rfl
  | false=>rw [List.filter_cons_of_neg (by rw [hp];decide),if_neg (by decide)];rfl
 ·rw [c6 h,if_neg (by decide),Bool.false_and,if_neg (by decide)];rfl
theorem c0g {c:u5}{s:A7}(ho:N0 c s=true)(d:Nat)(q:r5)(p:B0→Bool):a5k c s d q p s.Docs=(I4 c s d q).filter p:=by
 unfold a5k I4
 rw [if_pos ho]
theorem c2i (F:Nat){c:u5}{s:A7}(d:Nat)(q:r5)(p:B0→Bool)(k:Nat){i:Nat}(hi:i<s.Docs.length)(hl:s.Docs.length≤1000)(hF:2000<F):
  (if decide (0<D1 c s d q s.Docs[i])&&p (b34 c s d q s.Docs[i]) then T4 F ((J0 (a5k c s d q p (s.Docs.take i))).take k) (b34 c s d q s.Docs[i]) (k:Int) else some ((J0 (a5k c s d q p (s.Docs.take i))).take k))=some ((J0 (a5k c s d q p (s.Docs.take (i+1)))).take k):=by
 have h1:=c0h c s d q p (s.Docs.take i)
 rw [List.length_take] at h1
 rw [List.take_succ_eq_append_getElem hi,b76]
 split
 ·have hln:((J0 (a5k c s d q p (s.Docs.take i))).take k).length≤1000:=by
   rw [List.length_take,a2C];omega
  rw [b9w F _ _ k hln hF,b3M,b03]
 ·rw [List.append_nil]
theorem c1m (F:Nat){c:u5}{s:A7}(ho:N0 c s=true)(d:Nat)(q:r5)(p:B0→Bool)(k:Nat)(hl:s.Docs.length≤1000)(hF:2000<F){f:List B0×Int→Option ((List B0×Int)⊕List B0)}
  (hf: ∀(i:Nat) (hi:i<s.Docs.length),f ((J0 (a5k c s d q p (s.Docs.take i))).take k,(i:Int))=(if decide (0<D1 c s d q s.Docs[i])&&p (b34 c s d q s.Docs[i]) then T4 F ((J0 (a5k c s d q p (s.Docs.take i))).take k) (b34 c s d q s.Docs[i]) (k:Int) else some ((J0 (a5k c s d q p (s.Docs.take i))).take k)).bind fun r=>some (.inl (r,((i+1:Nat):Int))))
  (h0: ∀x,f (x,(s.Docs.length:Int))=some (.inr x)):v8 f F ([],0)=some ((J0 ((I4 c s d q).filter p)).take k):=by
 refine a8r (H4 (Post:=fun r:List B0=>r=(J0 ((I4 c s d q).filter p)).take k) (fun i (st:List B0×Int)=>st=((J0 (a5k c s d q p (s.Docs.take i))).take k,(i:Int))) s.Docs.length (fun i st hi e=>?_) (fun st e=>?_) s.Docs.length 0 ([],0) F (by omega) (by omega) (by rw [List.take_zero];exact congrArg (·,(0:Int)) (List.take_nil).symm))
 ·subst e
  refine .inl ⟨_,?_,rfl⟩
  rw [hf i hi,c2i F d q p k hi hl hF,a8]
 ·subst e
  refine⟨_,h0 _,?_⟩
  rw [List.take_length,c0g ho]
theorem c3k (F:Nat)(p:B0→Bool)(m:Nat)(L:List B0)(hl:L.length≤1000)(hF:2000<F){f:List B0×Int→Option ((List B0×Int)⊕List B0)}
  (hf: ∀(i:Nat) (x:B0) (acc:List B0),L[i]? =some x→acc.length<m→acc.length≤1000→f (acc,(i:Int))=some (.inl (acc++(if p x then [x] else []),((i+1:Nat):Int))))
  (h1: ∀(i:Nat) (acc:List B0),¬acc.length<m→i≤L.length→f (acc,(i:Int))=some (.inr acc))(h0: ∀acc,f (acc,(L.length:Int))=some (.inr acc)):v8 f F ([],0)=some ((L.filter p).take m):=by
 have hsn: ∀(i:Nat) (hi:i<L.length),(L.take (i+1)).filter p=(L.take i).filter p++if p L[i] then [L[i]] else []:=fun i hi=>by
  rw [List.take_succ_eq_append_getElem hi,List.filter_append]
  congr 1
  cases hp:p L[i] with
  | true=>rw [List.filter_cons_of_pos hp,if_pos rfl];rfl
  | false=>rw [List.filter_cons_of_neg (by rw [hp];decide),if_neg (by decide)];rfl
 have hle: ∀i,((L.take i).filter p).length≤1000:=fun i=>by
  have h1:=List.length_filter_le p (L.take i)
  rw [List.length_take] at h1;omega
 refine a8r (H4 (Post:=fun r:List B0=>r=(L.filter p).take m) (fun i (st:List B0×Int)=>st=(((L.take i).filter p).take m,(i:Int))) L.length (fun i st hi e=>?_) (fun st e=>?_) L.length 0 ([],0) F (by omega) (by omega) (by rw [List.take_zero];exact congrArg (·,(0:Int)) (List.take_nil).symm))
 ·subst e
  by_cases hm:((L.take i).filter p).length<m
  ·have e1:((L.take i).filter p).take m=(L.take i).filter p:=List.take_of_length_le (by omega)
   refine .inl ⟨_,?_,rfl⟩
   rw [e1,hf i L[i] _ (j4 hi) hm (hle i),hsn i hi]
   have e2:((L.take i).filter p++if p L[i] then [L[i]] else []).take m=(L.take i).filter p++if p L[i] then [L[i]] else []:=by
    refine List.take_of_length_le ?_
    rw [n9]
    split
    ·rw [j9];omega
    ·rw [List.length_nil];omega
   rw [e2]
  ·refine .inr ⟨_,h1 i _ ?_ (by omega),?_⟩
   ·rw [List.length_take];omega
   ·have hsplit:L.filter p=(L.take i).filter p++(L.drop i).filter p:=by rw [←List.filter_append,List.take_append_drop]
    rw [hsplit,List.take_append_of_le_length (by omega)]
 ·subst e
  refine⟨_,h0 _,?_⟩
  rw [List.take_length]
end Go.Fk
