/-
  Pages of what a question finds, and what a shard finds. The laws, on the models.
-/
import Derived.Test.YtnloenhmkdpgeaaGreatDoorLawTopP
set_option linter.unusedVariables false
namespace Go.Fk
open Go
def c8J (c:u6)(s:A5)(d:Nat)(q:q7)(p:E3→Bool)(m:Int):List E3:=if decide (1≤m)&&decide (m≤16) then (I2 ((G6 c s d q).filter p)).take m.toNat else []
theorem c9P (c:u6)(s:A5)(d:Nat)(q:q7)(p:E3→Bool)(m:Int):(c8J c s d q p m).length≤16:=by
 have h1:=a1y c s d q
 have h2:=List.length_filter_le p (G6 c s d q)
 unfold c8J
 split
 ·rw [List.length_take,a4e];omega
 ·simp
theorem c9O {c:u6}{s:A5}{d:Nat}{q:q7}{p:E3→Bool}{m:Int}(h1:1≤m)(h2:m≤16):c8J c s d q p m=((I2 (G6 c s d q)).filter p).take m.toNat:=by
 unfold c8J
 rw [b8 h1,b8 h2,if_pos (by decide),b7I p (a8e c s d q)]
theorem c8p (F:Nat){c:u6}{s:A5}{d:Nat}{q:q7}(m:Int)(a:E3)(hg:I3 d q)(hd:d≤4)(hl:s.Docs.length≤1000000)(hc:c.Stops.length≤2000000)(hF:1000000100<F):k7 F c s q m a=some (c8J c s d q (P1 a) m):=by
 unfold k7 c8J
 rw [c1b,a8]
 cases hm:decide (1≤m)&&decide (m≤16) with
 | false=>rfl
 | true=>
  simp only [q8,decide_eq_true_eq] at hm
  have hlen:=a1y c s d q
  have h2:=List.length_filter_le (P1 a) (G6 c s d q)
  rw [l7,i6,b0v F hg hd hl hc hF,a8]
  obtain⟨k,rfl⟩: ∃k:Nat,m=(k:Int):=⟨m.toNat,by omega⟩
  rw [a7o (xs:=G6 c s d q) (fun h=>if P1 a h then [h] else []) 100 (fun i x acc hx hB=>?_) [] (by rw [List.nil_append,a78];omega),List.nil_append,a78,a8,a8,c1N F _ k ((a8e c s d q).filter _) (by omega),a8,if_pos rfl,Int.toNat_natCast]
  rw [n8,hx,a8,b8s,a8,b69]
  cases hp:P1 a x with
  | false=>rw [i6,if_neg (by decide),List.append_nil]
  | true=>
   rw [hp,if_pos rfl,o0,l8] at hB
   rw [j4,H4 (by simp only [l8];omega),if_pos rfl];rfl
theorem c93 (F:Nat)(m a b:Int):G0 F m a b=some (decide (a≤m)&&decide (m≤b)):=by
 unfold G0
 cases decide (a≤m)<;>rfl
theorem c96 (c:u6)(s:A5)(d:Nat)(q:q7):a7h c s d q 16=I2 (G6 c s d q):=by
 have hh:=a1y c s d q
 unfold a7h
 rw [if_pos (by decide)]
 exact List.take_of_length_le (by rw [a4e];show _≤16;omega)
end Go.Fk
