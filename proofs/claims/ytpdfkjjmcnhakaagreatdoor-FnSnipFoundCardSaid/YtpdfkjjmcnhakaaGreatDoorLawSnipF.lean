/-
  What is found by a word has it in brackets. The law, on the models.
-/
import Derived.Test.YtpdfkjjmcnhakaaGreatDoorModelL
import Derived.Test.YtpdfkjjmcnhakaaGreatDoorLawSnA
set_option linter.unusedVariables false
namespace Go.Fk
open Go
theorem b4K {a b:Nat}(ha:1≤a)(hb:1≤b)(h:b≤1000):1≤a9S a b:=by
 unfold a9S
 have hg:0<Nat.gcd a b:=Nat.gcd_pos_of_pos_left _ ha
 have h1:1≤a/Nat.gcd a b:=(Nat.le_div_iff_mul_le hg).2 (by rw [Nat.one_mul];exact Nat.gcd_le_left _ ha)
 have h2:0<b/Nat.gcd a b:=Nat.div_pos (Nat.gcd_le_right _ hb) hg
 have h3:b/Nat.gcd a b≤b:=Nat.div_le_self _ _
 exact(Nat.le_div_iff_mul_le h2).2 (by omega)
theorem b2B {tf long total docs df:Nat}(h:a17 tf long total docs df):a47 tf long total docs≤1000:=by
 have h1:=h.h1;have h2:=h.h2;have h3:=h.h3;have h4:=h.h4
 have hm:9*long*docs≤144*total:=by
  calc 9*long*docs≤9*total*16:=Nat.mul_le_mul (by omega) h4.2
   _=144*total:=by omega
 have hd:9*long*docs/total≤144:=Nat.div_le_of_le_mul (by rw [Nat.mul_comm total];exact hm)
 unfold a47
 omega
theorem b4X {tf long total docs df:Nat}(h:a17 tf long total docs df):1≤b2Z tf long total docs df:=by
 have h1:=h.h1
 refine b4K ?_ (b0i h).1 (b2B h)
 unfold upN
 exact Nat.mul_pos (by omega) (Nat.succ_pos _)
theorem b58 (c:o0)(d:u1)(n t:l3):decide (0<(T0 c d n t).length)=(u2 c (C3 d n)).any fun x=>x.Text==t:=by
 unfold T0
 induction u2 c (C3 d n) with
 | nil=>rfl
 | cons x r ih=>
  rw [List.flatMap_cons,j8,List.any_cons,←ih]
  cases x.Text==t with
  | true=>rw [if_pos rfl,Bool.true_or,l6,b8 (by omega)]
  | false=>rw [if_neg (by decide),Bool.false_or,List.length_nil,Nat.zero_add]
theorem b2U {c:o0}{s:A2}(ho:P5 c s=true)(n t:l3){x:u1}(hx:x∈s.Docs):decide (0<((L0 c s n t x.Id:Nat):Int))=(u2 c (C3 x n)).any fun y=>y.Text==t:=by
 obtain⟨k1,k2,k3⟩:=a3K ho
 rw [←b58]
 have hat:atS s n t x.Id=if 0<(T0 c x n t).length then T0 c x n t else []:=by
  have:=b6W (c:=c) k2 (n:=n) (t:=t) hx
  rwa [←k3] at this
 unfold L0
 by_cases h0:0<(T0 c x n t).length
 ·rw [if_pos h0] at hat
  have hs0:(atS s n t x.Id).length≠0:=by rw [hat];omega
  have hsc:=a8Z (c:=c) k2 (n:=n) (t:=t) (id:=x.Id)
  rw [←k3] at hsc
  have:=b4X (hsc hs0)
  rw [if_neg hs0,b8 h0,b8 (by omega)]
 ·rw [if_neg h0] at hat
  rw [hat,List.length_nil,if_pos rfl,c6 h0];rfl
theorem b9X {D:List u1}(h:D.Pairwise fun a b=>a.Id<b.Id)(p:u1→Bool){x:u1}(hx:x∈D):((D.flatMap fun y=>if p y then [y.Id] else []).any fun n=>n==x.Id)=p x:=by
 rw [Bool.eq_iff_iff,List.any_eq_true]
 constructor
 ·rintro⟨n,hn,he⟩
  obtain⟨y,hyD,hy⟩:=List.mem_flatMap.1 hn
  split at hy
  ·rename_i hp
   have e:y.Id=x.Id:=by rw [←List.mem_singleton.1 hy];exact eq_of_beq he
   have:x=y:=by
    obtain⟨i,hi,rfl⟩:=List.mem_iff_getElem.1 hx
    obtain⟨j,hj,rfl⟩:=List.mem_iff_getElem.1 hyD
    rcases Nat.lt_trichotomy i j with q | q | q
    ·have:=List.pairwise_iff_getElem.1 h i j hi hj q
     omega
    ·subst q;rfl
    ·have:=List.pairwise_iff_getElem.1 h j i hj hi q
     omega
   rw [this];exact hp
  ·cases hy
 ·intro hp
  exact⟨x.Id,List.mem_flatMap.2 ⟨x,hx,by rw [if_pos hp];exact List.mem_singleton.2 rfl⟩,beq_self_eq_true _⟩
theorem a9n (code:List UInt8): ∃F,T8 F code=some true:=by
 refine⟨2000000000,?_⟩
 generalize hF:2000000000=F
 unfold T8
 cases decide ((1048576:Int)<(code.length:Int))
 case true=>rfl
 obtain⟨c,s,n,a,h1,hc,hs,hn,ha⟩:=a9k F code (by omega)
 have hl:=hs.few
 have hst:=hc.stops.1
 rw [i9,h1,a8]
 dsimp only
 have hspec:a01 F c s=some (P5 c s):=by
  unfold a01
  rw [b7L F 100 c s hs hc (by omega) (by omega)];rfl
 rw [b0v F c s (by omega) (by omega) (by omega),a8,hspec,a8q F c a (by omega) (by omega)]
 cases ho:P5 c s with
 | false=>rfl
 | true=>
 rw [n5,i9,a8,a8]
 cases hz:a4C c a==[] with
 | true=>rfl
 | false=>
 obtain⟨k1,k2,k3⟩:=a3K ho
 have la:a3P ⟨2,n,[a],0,0,[]⟩:=.term hn (b8k a ha).1
 have hok:okQ 4 ⟨2,n,[a],0,0,[]⟩=true:=by
  have e:=a9Z F (d:=1) (.leaf la) (by omega) (by omega)
  rw [b1y F _ (by omega)] at e
  exact Option.some.inj e
 have htw:A1 (a4C c a)=true:=by
  unfold a4C at hz ⊢
  rw [(b8k a ha).1,k1,if_pos (show (true&&true)=true from rfl)] at hz ⊢
  cases hx:(u2 c a)[0]? with
  | none=>rw [hx] at hz;cases hz
  | some x=>exact a89 k1 (m8 hx)
 have hlen:=b2R c s ⟨2,n,[a],0,0,[]⟩
 rw [i9,b1x F (by omega) (by omega) (by omega),a8]
 have hm:a2R c s ⟨2,n,[a],0,0,[]⟩=s.Docs.flatMap fun y=>if decide (0<((L0 c s n (a4C c a) y.Id:Nat):Int)) then [y.Id] else []:=by
  unfold a2R
  rw [ho,hok];rfl
 generalize hq:a2R c s ⟨2,n,[a],0,0,[]⟩=found at *
 generalize hpq:a4C c a=t at *
 have hfew:=a6i ho
 rw [a2p (m:=(.inl ():Unit⊕Bool)) (G3 (Post:=fun r=>r=(.inl ():Unit⊕Bool)) (fun i (st:Int)=>st=(i:Int)) s.Docs.length (fun i st hi e=>?_) (fun st e=>?_) s.Docs.length 0 (0:Int) F (by omega) (by omega) rfl)]
 ·rfl
 ·subst e
  refine .inl ⟨_,?_,rfl⟩
  have hx:s.Docs[i]∈s.Docs:=List.getElem_mem hi
  have hd:=a6v k2 _ hx
  have htx:O9 (C3 s.Docs[i] n)=true:=by
   unfold C3
   cases hf:s.Docs[i].Fields.find? fun f=>f.Name==n with
   | none=>rfl
   | some f=>exact(a21 hd (List.mem_of_find?_eq_some hf)).2
  have h160:=a3o htx
  rw [b8 (by omega),j6,a03 hi,a8,a1G,hd,if_pos rfl,a8,a8,b4D F k1 htx htw (by omega) (by omega),a8,a8,a1G,hd,if_pos rfl,a8,a8,b48 F k1 hc htx htw (by omega),a8,beq_self_eq_true,n5,i9]
  have hany:=b7K k1 (C3 s.Docs[i] n) t
  have hsl:(a5i c (C3 s.Docs[i] n) t).length≤1000:=by
   by_cases h0:(B1 (C3 s.Docs[i] n)).length=0
   ·rw [a6S _ _ _ h0];simp
   ·have hpl:=a6N c (C3 s.Docs[i] n) t (S6 (G8 (u2 c (C3 s.Docs[i] n)) t) (B1 (C3 s.Docs[i] n)).length)
    rw [b0U _ _ _ h0]
    unfold b1h
    rw [j8,j8]
    split<;>split<;>simp only [l9,List.length_nil]<;>omega
  generalize hT:a5i c (C3 s.Docs[i] n) t=T at *
  rw [a2p (m:=(T.take T.length).any (· ==91)) (G3 (Post:=fun r=>r=(T.take T.length).any (· ==91)) (fun k (st:Bool×Int)=>st=((T.take k).any (· ==91),(k:Int))) T.length (fun k st hk e=>?_) (fun st e=>?_) T.length 0 (false,(0:Int)) F (by omega) (by omega) rfl),List.take_length,a8,a8,a8,b9V F found _ (by omega) (by omega),a8,hany,hm,b9X (a1S k2).2.2 (fun y=>decide (0<((L0 c s n t y.Id:Nat):Int))) hx,b2U ho n t hx,beq_self_eq_true,n5,i9,u4 (by omega)]
  ·subst e
   refine .inl ⟨_,?_,rfl⟩
   dsimp only
   rw [b8 (by omega),j6,a03 hk,List.take_succ_eq_append_getElem hk,List.any_append,u4 (by omega)]
   cases (T.take k).any (· ==91) with
   | true=>rfl
   | false=>
    rw [i9,a8,a8,Bool.false_or,List.any_cons,List.any_nil,Bool.or_false]
  ·subst e
   refine⟨_,?_,rfl⟩
   dsimp only
   rw [c6 (by omega)];rfl
 ·subst e
  refine⟨_,?_,rfl⟩
  rw [c6 (by omega)];rfl
end Go.Fk
