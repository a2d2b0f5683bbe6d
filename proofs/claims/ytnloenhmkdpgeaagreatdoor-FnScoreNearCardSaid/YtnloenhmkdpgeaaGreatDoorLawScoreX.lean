/-
  Both, either, less, so many times: what the questions are worth. The laws, on the models.
-/
import Derived.Test.YtnloenhmkdpgeaaGreatDoorLawSc
import Derived.Test.YtnloenhmkdpgeaaGreatDoorLawDrs
set_option linter.unusedVariables false
namespace Go.Fk
open Go
def L7 (c:u6)(s:A5)(d:Nat)(q:q7)(id:Int):Int:=if G9 c s then (s.Docs.find? fun x=>x.Id==id).elim 0 (C2 c s d q) else 0
theorem a1U (F:Nat){c:u6}{s:A5}{d:Nat}{q:q7}(id:Int)(hg:I3 d q)(hd:d≤4)(hl:s.Docs.length≤1000000)(hc:c.Stops.length≤2000000)(hF:1000000100<F):N5 F c s q id=some (L7 c s d q id):=by
 unfold N5 L7
 rw [a8k,a8,a1T F c s (by omega) hc (by omega),a8]
 cases ho:G9 c s with
 | false=>rfl
 | true=>
  rw [l7,i6,a65 F hg hd (by omega),a8,l7,i6,if_pos rfl]
  cases hf:s.Docs.find? fun x=>x.Id==id with
  | none=>rfl
  | some x=>
   simp only [Option.elim,l7,a8,i6]
   rw [a9W c s x ho (List.mem_of_find?_eq_some hf) hg hd F (by omega)];rfl
theorem a5L (F:Nat){c:u6}{s:A5}{d:Nat}{q:q7}(id:Int)(hg:I3 d q)(hd:d≤4)(hs:X3 s.Docs)(hc:a1K 100 c)(hF:1000000100<F):Q9 F c s q id=some (L7 c s d q id):=by
 unfold Q9 L7
 rw [a9a F 100 c s hs hc (by omega) (by omega),a8]
 cases ho:G9 c s with
 | false=>rfl
 | true=>
  have hfew:=a2D ho
  obtain⟨_,h2,_⟩:=a0w ho
  rw [l7,i6,c4c F hg hd (by omega),a8,l7,i6,if_pos rfl,b4g F s id (by omega) (by omega),a8]
  cases hf:s.Docs.find? fun x=>x.Id==id with
  | none=>rfl
  | some x=>
   have hm:=List.mem_of_find?_eq_some hf
   have hid:(x.Id==id)=true:=List.find?_some (p:=fun x:A1=>x.Id==id) hf
   have hx:=(a0Q h2).2.1 x hm
   simp only [Option.getD_some,Option.elim,a8]
   rw [beq_eq_false_iff_ne.2 (by omega),i6,←eq_of_beq hid,a7w c s x ho hm hc (by have:=(hs.doc x hm).nums;omega) hg hd F (by omega)];rfl
theorem b7v {c:u6}{s:A5}{d:Nat}{q:q7}(id:Int)(hg:I3 d q)(hd:d≤3):0≤L7 c s d q id∧L7 c s d q id≤1000000000000*46656:=by
 unfold L7
 split
 ·rename_i ho
  cases s.Docs.find? fun x=>x.Id==id with
  | none=>simp only [Option.elim];omega
  | some x=>
   have:=a3u c s x ho hg
   have:=b8Y hd
   simp only [Option.elim];omega
 ·exact⟨Int.le_refl _,by decide⟩
theorem b3o (F:Nat)(code:List UInt8)(hF:200000<F): ∃c s q id,a0p F code=some (c,s,q,id)∧a1K 100 c∧X3 s.Docs∧I3 3 q:=by
 unfold a0p
 obtain⟨r,hr,h1,h2⟩:=b0Q F code
 rw [hr,a8]
 obtain⟨c,s,p,hs,⟨p0,p1⟩,hcd,hsf,_⟩:=a8Y F r ⟨h1,by omega,by omega⟩ hF
 rw [hs,a8]
 dsimp only
 have hdq:=a80 (d:=2) (by omega)
 obtain⟨q,p',hq,⟨q0,q1⟩,hg⟩:=a6c 2 F ⟨r.b_,p⟩ (by omega) (by omega) h1 (by simp only;omega) (by simp only;omega)
 simp only at q0 q1
 rw [show ((2+1:Nat):Int)=3 from rfl] at hq
 rw [hq,a8]
 dsimp only
 obtain⟨x,hx,_,_⟩:=O3 F ⟨r.b_,p'⟩ 9 ⟨h1,by simp only;omega,by simp only;omega⟩
 rw [hx]
 exact⟨_,_,_,_,rfl,hcd.fit,hsf,hg⟩
theorem c0B {a b:q7}{d:Nat}(ha:I3 d a)(hb:I3 d b): ∀k∈[a,b],I3 d k:=fun k hk=>by
 simp only [List.mem_cons,List.not_mem_nil,or_false] at hk
 rcases hk with rfl | rfl
 ·exact ha
 ·exact hb
theorem b7w {c:u6}{s:A5}{d:Nat}{a b:q7}(id:Int)(hs:G9 c s=true):L7 c s (d+1) ⟨7,[],[],0,0,[a,b]⟩ id=(if L7 c s d a id=0∨L7 c s d b id=0 then 0 else L7 c s d a id+L7 c s d b id)∧
  L7 c s (d+1) ⟨8,[],[],0,0,[a,b]⟩ id=L7 c s d a id+L7 c s d b id∧L7 c s (d+1) ⟨9,[],[],0,0,[a,b]⟩ id=(if 0<L7 c s d b id then 0 else L7 c s d a id):=by
 unfold L7
 rw [if_pos hs,if_pos hs,if_pos hs,if_pos hs,if_pos hs]
 cases s.Docs.find? fun x=>x.Id==id with
 | none=>simp
 | some x=>
  simp only [Option.elim]
  refine⟨?_,?_,rfl⟩
  ·show a6O true [C2 c s d a x,C2 c s d b x]=_
   unfold a6O
   by_cases h1:C2 c s d a x=0
   ·simp [h1]
   ·by_cases h2:C2 c s d b x=0
    ·simp [h2]
    ·simp [h1,h2]
  ·show a6O false [C2 c s d a x,C2 c s d b x]=_
   unfold a6O
   simp
end Go.Fk
