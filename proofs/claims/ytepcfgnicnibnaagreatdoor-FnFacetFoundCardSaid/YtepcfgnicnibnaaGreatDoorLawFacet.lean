/-
  Facets: what the program counts is what the reference counts; two shards together count as much.
-/
import Derived.Test.YtepcfgnicnibnaaGreatDoorLawShard
import Derived.Test.YtepcfgnicnibnaaGreatDoorLawFacetP
import Derived.Test.YtepcfgnicnibnaaGreatDoorLawBase
set_option linter.unusedVariables false
set_option maxRecDepth 100000
namespace Go.Fk
open Go
def b1R (d:y5)(name:q9):Int:=(d.Nums.find? fun a=>a.Name==name).elim (-1) (·.Num)
theorem c1U (F:Nat)(d:y5)(name:q9)(hd:a3h d=true):W7 F d name=some (b1R d name):=by
 unfold W7 b1R
 rw [a9I,a8,hd,i9]
 rw [a2v (fun a=>a.Name==name) (fun a=>a.Num) (fun i x hx=>by
  rw [n5,hx,a8];cases x.Name==name<;>rfl)]
 cases List.find? (fun a=>a.Name==name) d.Nums<;>rfl
theorem c19 {d:y5}{name:q9}(hd:a3h d=true):b1R d name= -1∨(0≤b1R d name∧b1R d name≤999999999):=by
 unfold b1R
 cases hf:d.Nums.find? fun a=>a.Name==name with
 | none=>exact .inl rfl
 | some a=>
  have hm:=List.mem_of_find?_eq_some hf
  unfold a3h at hd
  simp only [l8] at hd
  have h1:=(a3Q hd.1.2).1 a hm
  unfold a5W at h1
  simp only [l8,decide_eq_true_iff] at h1
  exact .inr h1.2
theorem c2a {d:y5}{name:q9}(hd:a3h d=true):(!(b1R d name== -1))=decide (0≤b1R d name):=by
 rcases c19 (name:=name) hd with h | h
 ·rw [h];rfl
 ·rw [b8 h.1,beq_eq_false_iff_ne.2 (by omega)];rfl
def upS (ids:List Int):Bool:=a1U (fun n=>decide (0≤n)&&decide (n≤999999999)) (fun a b=>decide (a<b)) ids&&decide ((ids.length:Int)≤60)
theorem b5B (F:Nat)(ids:List Int)(hl:ids.length<9000000000000000000):W9 F ids=some (upS ids):=by
 unfold W9 upS
 rw [a47 (ok:=fun n=>decide (0≤n)&&decide (n≤999999999)) (lt:=fun a b=>decide (a<b)) (fun i x hx=>?_)]
 ·cases a1U (fun n=>decide (0≤n)&&decide (n≤999999999)) (fun a b=>decide (a<b)) ids<;>rfl
 ·have hi:=(i4.1 hx).1
  rw [n5,hx,a8,M7,a8]
  cases (decide (0≤x)&&decide (x≤999999999)) with
  | false=>rfl
  | true=>
   rw [l9,i6,q8]
   by_cases h0:i=0
   ·subst h0;rfl
   ·rw [b8 (show (0:Int)<(i:Int) by omega),i9,V5 (by omega) (by omega),n5,j4 (show i-1<ids.length by omega),a8,a8,c6 h0,Bool.false_or]
    show _=some (if decide (ids[i-1]<x)=true then _ else _)
    rw [show decide (x≤ids[i-1])= !decide (ids[i-1]<x) by rw [a81];simp]
    cases decide (ids[i-1]<x)<;>rfl
def c5y (ids:List Int)(name:q9)(d:y5):Bool:=decide (0≤b1R d name)&&ids.any fun x=>d.Id==x
def b8A (ids:List Int)(name:q9)(d:y5):List Int:=if c5y ids name d then [b1R d name] else []
def b2k (ds:List y5)(ids:List Int)(name:q9):List Int:=ds.flatMap (b8A ids name)
theorem a9x (F:Nat)(xs:List Int)(n:Int):N9 F xs n=some (xs.any fun x=>n==x):=by
 unfold N9 a04
 rw [b2Z (fun x=>n==x) (fun i x hx=>by
  rw [n5,hx,a8];cases n==x<;>rfl),←c1S]
 cases xs.findIdx? (fun x=>n==x)<;>rfl
theorem c3Q (ids:List Int)(name:q9)(d:y5):(b8A ids name d).length≤1:=by unfold b8A;split<;>simp
theorem b3H (ds:List y5)(ids:List Int)(name:q9):(b2k ds ids name).length≤ds.length:=by
 have:=W3 (m:=1) ds (fun d _=>c3Q ids name d)
 unfold b2k;omega
theorem b6u {ds:List y5}(h:Z6 ds=true): ∀d∈ds,a3h d=true:=by
 unfold Z6 at h
 rw [l8] at h
 exact(a3Q h.1).1
theorem c1X (F:Nat)(ds:List y5)(ids:List Int)(name:q9)(hd:Z6 ds=true):a1o F ds ids name=some (b2k ds ids name):=by
 have hl:=(a3J hd).1
 have hlen:=b3H ds ids name
 unfold a1o
 rw [a4s (b8A ids name) 1000 (fun i x acc hx hB=>?_) [] (by rw [List.nil_append];show (b2k ds ids name).length≤_;omega)]
 ·rfl
 ·have hdx:=b6u hd x (l7 hx)
  rw [n5,hx,a8,c1U F x name hdx,a8,c2a hdx,a9x]
  unfold b8A c5y
  cases decide (0≤b1R x name) with
  | false=>simp
  | true=>
   rw [i9,a8,a8,q8]
   cases (ids.any fun y=>x.Id==y) with
   | false=>simp
   | true=>
    rw [i9,F1 (by simp only [j9];rw [n9] at hB;omega)];rfl
theorem b84 (F:Nat)(a b:Int):J9 F a b=some (if a<b then -1 else if b<a then 1 else 0):=by
 unfold J9 O6
 simp only [beq_self_eq_true,l9,a8,i6]
 by_cases h:a<b
 ·rw [b8 h,if_pos h];rfl
 ·rw [c6 h,if_neg h]
  by_cases h2:b<a
  ·rw [b8 h2,if_pos h2];rfl
  ·rw [c6 h2,if_neg h2];rfl
theorem c5i (F:Nat)(a b:Int):Q7 F [a,b]=some (if a=0 then b else a):=by
 unfold Q7
 rw [a2v (fun x=> !(x==(0:Int))) (fun x=>x) (fun i x hx=>by
  rw [n5,hx,a8];cases x==(0:Int)<;>rfl)]
 by_cases ha:a=0
 ·subst ha
  by_cases hb:b=0
  ·subst hb;rfl
  ·have:(b==0)=false:=beq_eq_false_iff_ne.2 hb
   simp [List.find?,this]
 ·have:(a==0)=false:=beq_eq_false_iff_ne.2 ha
  simp [List.find?,this,ha]
theorem b9r (F:Nat)(a b:a32):N1 F a b=some (if b.Many<a.Many then -1 else if a.Many<b.Many then 1 else if a.Num<b.Num then -1 else if b.Num<a.Num then 1 else 0):=by
 unfold N1
 rw [b84,a8,b84,a8,c5i,a8]
 congr 1
 split
 ·rfl
 ·split<;>simp
def c5a (a b:a32):Bool:=ltF (a.Num,a.Many) (b.Num,b.Many)
theorem c3E (F:Nat)(a b:a32):ltO (fun a b=>N1 F a b) a b=c5a a b:=by
 unfold ltO
 show decide ((N1 F a b).getD 0<0)=_
 rw [b9r,Bool.eq_iff_iff]
 unfold c5a
 rw [a4u]
 simp only [Option.getD_some,decide_eq_true_iff]
 split<;>rename_i h1
 ·exact⟨fun _=>.inl h1,fun _=>by decide⟩
 ·split<;>rename_i h2
  ·constructor
   ·intro h;exact absurd h (by decide)
   ·intro h;omega
  ·split<;>rename_i h3
   ·constructor
    ·intro _;right;omega
    ·intro _;decide
   ·constructor
    ·intro h
     split at h<;>exact absurd h (by decide)
    ·intro h;omega
theorem b75 (F:Nat)(ns:List Int)(hl:ns.length≤100000):a4R (fun a b=>N1 F a b) ((a8Y ns).map a08)=some ((b1C (a3I ns)).map a08):=by
 obtain⟨h1,h2⟩:=b1c ns
 refine b7u (lt:=c5a) (c3E F) (fun a b=>by rw [b9r];rfl) (fun a=>b9i _) (fun h h'=>c14 h h') (fun h=>c48 h) ?_ ?_ (fun x=>?_) ?_
 ·exact List.pairwise_map.2 ((b5m ns).imp fun {a b} h=>h)
 ·exact List.pairwise_map.2 (h1.imp fun {a b} h=>h)
 ·rw [List.mem_map,List.mem_map]
  constructor<;>rintro⟨p,hp,rfl⟩
  ·exact⟨p,(h2 p).1 hp,rfl⟩
  ·exact⟨p,(h2 p).2 hp,rfl⟩
 ·rw [List.length_map]
  have hc:=a7x ns
  have hle:(a8Y ns).length≤ns.length:=a8Z hc
  omega
def c3j (ds:List y5)(ids:List Int)(name:q9):List a32:=if Z6 ds&&upS ids then (b1C (a3I (b2k ds ids name))).map a08 else []
theorem b91 (ns:List Int)(hl:ns.length≤1000000):a7w ns=a8Y ns:=by
 have key: ∀(ns pre:List Int) (m:List (Int×Int)),a2E m pre→(pre++ns).length≤1000000→ns.foldl (fun m n=>a4Z n (A1 (a1s m n+1)) m) m=ns.foldl (fun m n=>a4Z n (a1s m n+1) m) m:=fun ns=>by
  induction ns with
  | nil=>intros;rfl
  | cons n ns ih=>
   intro pre m hc hl
   have h1:a1s m n=(pre.count n:Int):=hc.look n
   have h2:pre.count n≤pre.length:=List.count_le_length
   rw [n9,r4] at hl
   rw [List.foldl_cons,List.foldl_cons,B9 ⟨by omega,by omega⟩]
   exact ih (pre++[n]) _ (hc.step n) (by simp;omega)
 exact key ns [] [] ⟨List.Pairwise.nil,by simp⟩ (by simpa using hl)
theorem b78 (F:Nat)(ds:List y5)(ids:List Int)(name:q9)(hd:ds.length≤100)(hi:ids.length≤1000):a1Y F ds ids name=some (c3j ds ids name):=by
 unfold a1Y c3j
 rw [b0y F ds (by omega),a8]
 cases hds:Z6 ds with
 | false=>rfl
 | true=>
  rw [l9,i6,b5B F ids (by omega),a8,a8]
  cases upS ids with
  | false=>rfl
  | true=>
   have hl:=b3H ds ids name
   have hcl:=a8Z (a7x (b2k ds ids name))
   rw [l9,i6,c1X F ds ids name hds,a8,b91 _ (by omega),F1 (by simp only [List.length_nil,List.length_map];omega),a8,List.nil_append,b75 F _ (by omega)];rfl
end Go.Fk
