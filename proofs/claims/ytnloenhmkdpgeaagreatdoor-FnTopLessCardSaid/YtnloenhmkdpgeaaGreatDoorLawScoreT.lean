/-
  So many times: what the question is worth, and what is found. The law, on the models.
-/
import Derived.Test.YtnloenhmkdpgeaaGreatDoorModelLScoreTimes
import Derived.Test.YtnloenhmkdpgeaaGreatDoorLawScoreX
set_option linter.unusedVariables false
namespace Go.Fk
open Go
def a3T (c:u6)(s:A5)(d:Nat)(q:q7)(x:A1):List E3:=if decide (0<C2 c s d q x) then [⟨x.Id,C2 c s d q x⟩] else []
def G6 (c:u6)(s:A5)(d:Nat)(q:q7):List E3:=if G9 c s then s.Docs.flatMap (a3T c s d q) else []
theorem b3x (c:u6)(s:A5)(d:Nat)(q:q7)(x:A1):(a3T c s d q x).length≤1:=by unfold a3T;split<;>simp
theorem a1y (c:u6)(s:A5)(d:Nat)(q:q7):(G6 c s d q).length≤16:=by
 unfold G6
 split
 ·rename_i ho
  have:=Z4 (g:=a3T c s d q) (m:=1) s.Docs fun x _=>b3x c s d q x
  have:=(a2D ho).2
  omega
 ·simp
theorem b0v (F:Nat){c:u6}{s:A5}{d:Nat}{q:q7}(hg:I3 d q)(hd:d≤4)(hl:s.Docs.length≤1000000)(hc:c.Stops.length≤2000000)(hF:1000000100<F):a05 F c s q=some (G6 c s d q):=by
 unfold a05 G6
 rw [a1T F c s (by omega) hc (by omega),a8]
 cases ho:G9 c s with
 | false=>rfl
 | true=>
  have hfew:=a2D ho
  have hfl:=Z4 (g:=a3T c s d q) (m:=1) s.Docs fun x _=>b3x c s d q x
  rw [l7,i6,a65 F hg hd (by omega),a8,l7,a8,i6,if_pos rfl]
  rw [a7o (xs:=s.Docs) (a3T c s d q) 100 (fun i x acc hx hB=>?_) [] (by rw [List.nil_append];omega),List.nil_append]
  ·rfl
  ·rw [n8,hx,a8,a9W c s x ho (n5 hx) hg hd F (by omega),a8]
   unfold a3T at hB ⊢
   by_cases h0:0<C2 c s d q x
   ·rw [b8 h0,j4,if_pos rfl]
    rw [b8 h0,if_pos rfl] at hB
    simp only [o0,l8] at hB
    rw [H4 (by simp only [l8];omega)];rfl
   ·rw [c6 h0,i6,if_neg (by simp),List.append_nil]
theorem a23 (F:Nat){c:u6}{s:A5}{d:Nat}{q:q7}(hg:I3 d q)(hd:d≤4)(hl:s.Docs.length≤1000000)(hc:c.Stops.length≤2000000)(hF:1000000100<F):I4 F c s q=some ((G6 c s d q).map (·.Doc)):=by
 have hlen:=a1y c s d q
 unfold I4
 rw [b0v F hg hd hl hc hF,a8]
 have e:(G6 c s d q).map (·.Doc)=(G6 c s d q).flatMap fun h=>[h.Doc]:=by
  induction G6 c s d q with
  | nil=>rfl
  | cons a l ih=>rw [List.map_cons,List.flatMap_cons,ih];rfl
 rw [e,a7o (xs:=G6 c s d q) (fun h=>[h.Doc]) 100 (fun i x acc hx hB=>?_) [] (by rw [List.nil_append,←e,List.length_map];omega),List.nil_append]
 ·rfl
 ·simp only [o0,l8] at hB
  rw [n8,hx,a8,H4 (by simp only [l8];omega)];rfl
theorem b5s {n a:Int}(hn:2≤n)(ha:0≤a):(0<n*a)=(0<a):=by
 apply propext
 constructor
 ·intro h
  rcases Int.lt_or_eq_of_le ha with h1 | h1
  ·exact h1
  ·rw [←h1,Int.mul_zero] at h;exact absurd h (by omega)
 ·intro h
  exact Int.mul_pos (by omega) h
theorem b64 {c:u6}{s:A5}{d:Nat}{q:q7}{n:Int}(hn:2≤n)(hg:I3 d q):(G6 c s (d+1) ⟨10,[],[],n,0,[q]⟩).map (·.Doc)=(G6 c s d q).map (·.Doc):=by
 unfold G6
 cases ho:G9 c s with
 | false=>rfl
 | true=>
  rw [if_pos rfl,if_pos rfl,List.map_flatMap,List.map_flatMap]
  congr 1
  funext x
  have hr:=a3u c s x ho hg
  unfold a3T
  have e:C2 c s (d+1) ⟨10,[],[],n,0,[q]⟩ x=n*C2 c s d q x:=rfl
  rw [e]
  by_cases h0:0<C2 c s d q x
  ·rw [b8 h0,b8 (by rw [b5s hn hr.1];exact h0)];rfl
  ·rw [c6 h0,c6 (by rw [b5s hn hr.1];exact h0)];rfl
theorem b3D (code more:List UInt8): ∃F,a1h F code more=some true:=by
 refine⟨2000000000,?_⟩
 generalize hF:2000000000=F
 unfold a1h
 cases decide ((1048576:Int)<(code.length:Int))
 case true=>rfl
 cases decide ((1048576:Int)<(more.length:Int))
 case true=>rfl
 obtain⟨c,s,q,id,h1,hc,hs,hq⟩:=b3o F code (by omega)
 have hl:=hs.few
 have hst:=hc.stops.1
 rw [i6,a8,i6,h1,a8]
 dsimp only
 have hrem:a6g (more.length:Int) 8=some ((more.length%8:Nat):Int):=by
  unfold a6g
  rw [if_neg (by omega)]
  rfl
 generalize hk:more.length%8=k at hrem
 have hk8:k<8:=by omega
 have hw:z8 ((2:Int)+(k:Int))=2+(k:Int):=C5 ⟨by omega,by omega⟩
 have gt:I3 4 ⟨10,[],[],2+(k:Int),0,[q]⟩:=.times (by omega) (by omega) hq
 rw [a1U F id hq (by omega) (by omega) (by omega) (by omega),a8,hrem,a8,hw,a5L F id hq (by omega) hs hc (by omega),a8,beq_self_eq_true,l7,i6,
  a65 F gt (by omega) (by omega),a8,l7,i6,a1T F c s (by omega) (by omega) (by omega),a8,a8]
 cases ho:G9 c s with
 | false=>rw [Bool.not_false,j4,a8,beq_self_eq_true]
 | true=>
  have ha:=b7v (c:=c) (s:=s) id hq (by omega)
  have h4:(2+(k:Int))*L7 c s 3 q id≤9*L7 c s 3 q id:=Int.mul_le_mul_of_nonneg_right (by omega) ha.1
  have h5:0≤(2+(k:Int))*L7 c s 3 q id:=Int.mul_nonneg (by omega) ha.1
  have hx:L7 c s 4 ⟨10,[],[],2+(k:Int),0,[q]⟩ id=(2+(k:Int))*L7 c s 3 q id:=by
   unfold L7
   rw [if_pos ho,if_pos ho]
   cases s.Docs.find? fun x=>x.Id==id with
   | none=>simp
   | some x=>rfl
  have hlen:=a1y c s 3 q
  rw [l7,i6,a1U F id gt (by omega) (by omega) (by omega) (by omega),a8,hx,C5 ⟨by omega,by omega⟩,beq_self_eq_true,j4,
   a23 F gt (by omega) (by omega) (by omega) (by omega),a8,a23 F hq (by omega) (by omega) (by omega) (by omega),a8,b64 (by omega) hq,a79 F _ (by rw [List.length_map];omega) (by rw [List.length_map];omega)]
  rfl
end Go.Fk
