import Derived.Test.YtnloenhmkdpgeaaGreatDoorLawPts
import Derived.Test.YtnloenhmkdpgeaaGreatDoorLawTopH
import Derived.Test.YtnloenhmkdpgeaaGreatDoorLawBase
/-
  Blocks of two posts each, and the most points in each.
-/
set_option linter.unusedVariables false
set_option maxRecDepth 100000
namespace Go.Fk
open Go
def blk:List (Int×Nat)→List g6
 | []=>[]
 | [a]=>[⟨a.1,a.2⟩]
 | a::b::r=>⟨b.1,(max a.2 b.2:Nat)⟩::blk r
theorem c0y: ∀ps:List (Int×Nat),(blk ps).length=(ps.length+1)/2
 | []=>rfl
 | [a]=>by simp [blk]
 | a::b::r=>by
  rw [blk,s6,c0y r]
  simp only [s6];omega
theorem c7C: ∀(qs r:List (Int×Nat)),qs.length%2=0→blk (qs++r)=blk qs++blk r
 | [],r,_=>rfl
 | [a],r,h=>by simp at h
 | a::b::q,r,h=>by
  rw [List.cons_append,List.cons_append,blk,blk,c7C q r (by simp only [s6] at h;omega)];rfl
theorem c71 {ps:List (Int×Nat)}{i:Nat}(hi:i<ps.length): ∃B y,(if i%2=0 then blk (ps.take i)++[⟨0,0⟩] else blk (ps.take i))=B++[y]∧blk (ps.take (i+1))=B++[⟨ps[i].1,max y.Most (ps[i].2:Int)⟩]∧0≤y.Most∧B.length=i/2:=by
 have htl:(ps.take i).length=i:=by rw [List.length_take];omega
 by_cases h:i%2=0
 ·refine⟨blk (ps.take i),⟨0,0⟩,by rw [if_pos h],?_,Int.le_refl _,by rw [c0y,htl];omega⟩
  rw [List.take_succ_eq_append_getElem hi,c7C _ _ (by rw [htl];exact h)]
  simp only [blk]
  congr 3
 ·have h1:i-1<ps.length:=by omega
  have e1:ps.take i=ps.take (i-1)++[ps[i-1]]:=by
   have:=List.take_succ_eq_append_getElem h1
   rwa [show i-1+1=i by omega] at this
  have htl2:(ps.take (i-1)).length=i-1:=by rw [List.length_take];omega
  refine⟨blk (ps.take (i-1)),⟨ps[i-1].1,ps[i-1].2⟩,?_,?_,by simp only;omega,by rw [c0y,htl2];omega⟩
  ·rw [if_neg h,e1,c7C _ _ (by rw [htl2];omega)];rfl
  ·rw [List.take_succ_eq_append_getElem hi,e1,List.append_assoc,c7C _ _ (by rw [htl2];omega)]
   simp only [blk,List.cons_append,List.nil_append]
   congr 3
   omega
theorem c7h {α:Type}(B:List α)(y z:α):(B++[y]).set B.length z=B++[z]:=by
 rw [List.set_append_right _ _ (Nat.le_refl _),Nat.sub_self];rfl
theorem c8q {α:Type}(B:List α)(y:α)(h:B.length<8000000000000000000):z8 (((B++[y]).length:Int)-1)=(B.length:Int):=by
 rw [o0,l8,a0y (i:=B.length+1) (by omega) (by omega)];rfl
theorem c7F {α:Type}(B:List α)(y:α):v8 (B++[y]) (B.length:Int)=some y:=by
 rw [n8,List.getElem?_append_right (Nat.le_refl _),Nat.sub_self];rfl
theorem c8r (i:Nat):a6g (i:Int) 2=some ((i%2:Nat):Int):=by
 unfold a6g
 rw [if_neg (by omega)]
 show some ((i:Int).tmod ((2:Nat):Int))=_
 rw [b70]
def psS (c:u6)(s:A5)(n t:r4):List (Int×Nat):=(G3 s n t).map fun p=>(p.Doc,H2 c s n t p.Doc)
theorem c74 (F:Nat)(c:u6)(s:A5)(n t:r4)(ho:G9 c s=true)(hF:1000000000<F):m9 F ⟨c,s⟩ n t=some (blk (psS c s n t)):=by
 have hpl:=(a4A ho n t).1
 unfold m9
 rw [b7g,a5Y,a8]
 have hlen:(psS c s n t).length=(G3 s n t).length:=by unfold psS;rw [List.length_map]
 obtain⟨r,hr,he⟩:=a6T (σ:=List g6) (f:=fun (i53:Nat) (s49:(List g6))=>(Option.bind (v8 (G3 s n t) ((i53:Nat):Int)) fun x68=>(Option.bind (a6g ((i53:Nat):Int) (2:Int)) fun x88=>(Option.bind ((cond (x88==(0:Int)) (Option.bind (O2 16 s49 ([(g6.mk (0:Int) (0:Int))]:List g6)) fun x113=>(some x113)) (some s49)):Option (List g6)) fun o91=>(Option.bind (v8 o91 (z8 ((o91.length:Int)-(1:Int)))) fun x130=>(Option.bind (M7 F ⟨c,s⟩ n t x68.Doc) fun r156=>(some (List.set (List.set o91 ((z8 ((o91.length:Int)-(1:Int)))).toNat (g6.mk x68.Doc x130.Most)) ((z8 ((o91.length:Int)-(1:Int)))).toNat (g6.mk (g6.mk x68.Doc x130.Most).Last (if r156>(g6.mk x68.Doc x130.Most).Most then r156 else (g6.mk x68.Doc x130.Most).Most))))))))))
  (fun i acc=>acc=blk ((psS c s n t).take i)) (G3 s n t).length (fun i acc hi hacc=>by
   obtain⟨B,y,h1,h2,h3,h4⟩:=c71 (ps:=psS c s n t) (i:=i) (by omega)
   have hbl:(blk ((psS c s n t).take i)).length≤10000:=by rw [c0y,List.length_take];omega
   refine⟨B++[⟨(G3 s n t)[i].Doc,max y.Most ((H2 c s n t (G3 s n t)[i].Doc:Nat):Int)⟩],?_,?_⟩
   ·dsimp only
    rw [T5 hi,a8,c8r,a8,hacc]
    have hsplit:(cond (((i%2:Nat):Int)==(0:Int)) (Option.bind (O2 16 (blk ((psS c s n t).take i)) ([(g6.mk (0:Int) (0:Int))]:List g6)) fun x113=>(some x113)) (some (blk ((psS c s n t).take i))))=some (B++[y]):=by
     rw [←h1]
     by_cases h:i%2=0
     ·rw [if_pos h,beq_iff_eq.2 (by omega),j4,H4 (by rw [l8];omega)];rfl
     ·rw [if_neg h,beq_eq_false_iff_ne.2 (by omega)];rfl
    rw [hsplit,a8,c8q B y (by omega),c7F,a8,a8j F c s n t _ ho hF,a8,Int.toNat_natCast,c7h,c7h]
    congr 4
    simp only [gt_iff_lt]
    split<;>omega
   ·rw [h2]
    congr 3<;>simp [psS]) (G3 s n t).length 0 [] (by omega) rfl
 dsimp only at hr ⊢
 rw [hr,a8,a8,he,←hlen,List.take_length]
theorem c79 (F:Nat)(c:u6)(s:A5)(n t:r4)(ho:G9 c s=true)(hF:1000000000<F):u3 F s n t=some (blk (psS c s n t)):=by
 obtain⟨h1,h2,h3⟩:=a0w ho
 have hfit:s.Entries.length≤10000:=by
  have:=(a8L (c:=c) h2).1
  rw [h3];omega
 have hpl:=(a4A ho n t).1
 unfold u3
 rw [a8M F s n t hfit (by omega),a8]
 have hlen:(psS c s n t).length=(G3 s n t).length:=by unfold psS;rw [List.length_map]
 obtain⟨r,hr,he⟩:=I7 (σ:=(List g6)×Int) (τ:=List g6) (f:=(fun (s43:(List g6)×Int)=>(cond (decide (s43.2<((G3 s n t).length:Int))) (Option.bind (v8 (G3 s n t) s43.2) fun x64=>(Option.bind (U9 F s n t x64.Doc) fun r78=>(Option.bind (a6g s43.2 (2:Int)) fun x90=>(Option.bind ((cond (x90==(0:Int)) (Option.bind (O2 16 s43.1 ([(g6.mk (0:Int) (0:Int))]:List g6)) fun x115=>(some x115)) (some s43.1)):Option (List g6)) fun o93=>(Option.bind (v8 (G3 s n t) s43.2) fun x128=>(Option.bind (v8 o93 (z8 ((o93.length:Int)-(1:Int)))) fun x142=>(Option.bind (v8 (List.set o93 ((z8 ((o93.length:Int)-(1:Int)))).toNat (g6.mk x128.Doc x142.Most)) (z8 ((o93.length:Int)-(1:Int)))) fun x166=>(cond (decide (x166.Most<r78)) (Option.bind (v8 (List.set o93 ((z8 ((o93.length:Int)-(1:Int)))).toNat (g6.mk x128.Doc x142.Most)) (z8 ((o93.length:Int)-(1:Int)))) fun x179=>(some (.inl ((List.set (List.set o93 ((z8 ((o93.length:Int)-(1:Int)))).toNat (g6.mk x128.Doc x142.Most)) ((z8 ((o93.length:Int)-(1:Int)))).toNat (g6.mk x179.Last r78)),(z8 (s43.2+(1:Int))))))) (some (.inl ((List.set o93 ((z8 ((o93.length:Int)-(1:Int)))).toNat (g6.mk x128.Doc x142.Most)),(z8 (s43.2+(1:Int)))))))))))))) (some (.inr s43.1)))))
  (Post:=fun t'=>t'=blk (psS c s n t)) (fun i st=>st=(blk ((psS c s n t).take i),(i:Int))) (G3 s n t).length (fun i st hi hst=>by
   subst hst
   obtain⟨B,y,h1,h2,h3,h4⟩:=c71 (ps:=psS c s n t) (i:=i) (by omega)
   have hbl:(blk ((psS c s n t).take i)).length≤10000:=by rw [c0y,List.length_take];omega
   refine .inl ⟨(B++[⟨(G3 s n t)[i].Doc,max y.Most ((H2 c s n t (G3 s n t)[i].Doc:Nat):Int)⟩],((i+1:Nat):Int)),?_,?_⟩
   ·dsimp only
    rw [b8 (by omega),j4,T5 hi,a8,a8N F c s n t _ ho hF,a8,c8r,a8]
    have hsplit:(cond (((i%2:Nat):Int)==(0:Int)) (Option.bind (O2 16 (blk ((psS c s n t).take i)) ([(g6.mk (0:Int) (0:Int))]:List g6)) fun x113=>(some x113)) (some (blk ((psS c s n t).take i))))=some (B++[y]):=by
     rw [←h1]
     by_cases h:i%2=0
     ·rw [if_pos h,beq_iff_eq.2 (by omega),j4,H4 (by rw [l8];omega)];rfl
     ·rw [if_neg h,beq_eq_false_iff_ne.2 (by omega)];rfl
    rw [hsplit,a8,a8,c8q B y (by omega),c7F,a8,Int.toNat_natCast,c7h,c7F,a8,y5 (by omega)]
    dsimp only
    by_cases hm:y.Most<((H2 c s n t (G3 s n t)[i].Doc:Nat):Int)
    ·rw [b8 hm,j4,a8,c7h,Int.max_eq_right (by omega)]
    ·rw [c6 hm,i6,Int.max_eq_left (by omega)]
   ·rw [h2]
    congr 4<;>simp [psS]) (fun st hst=>by
   subst hst
   refine⟨_,by dsimp only;rw [c6 (by omega)];rfl,?_⟩
   rw [←hlen,List.take_length]) (G3 s n t).length 0 (([]:List g6),(0:Int)) F (by omega) (by omega) rfl
 rw [hr,a8,a8,he]
def UpB (l:List g6):Prop:=l.Pairwise fun a b=>a.Last<b.Last
theorem c8n: ∀{ps:List (Int×Nat)} {b:g6},b∈blk ps→∃p∈ps,b.Last=p.1
 | [],b,h=>by cases h
 | [a],b,h=>by rcases List.mem_singleton.1 h with rfl;exact⟨a,List.mem_singleton.2 rfl,rfl⟩
 | a::a'::r,b,h=>by
  rw [blk] at h
  rcases List.mem_cons.1 h with rfl | h
  ·exact⟨a',by simp,rfl⟩
  ·obtain⟨p,hp,e⟩:=c8n h
   exact⟨p,by simp [hp],e⟩
theorem c8M: ∀{ps:List (Int×Nat)},(ps.Pairwise fun a b=>a.1<b.1)→UpB (blk ps)
 | [],_=>List.Pairwise.nil
 | [a],_=>List.pairwise_singleton _ _
 | a::b::r,h=>by
  have h1:=(List.pairwise_cons.1 (List.pairwise_cons.1 h).2)
  rw [blk]
  refine List.pairwise_cons.2 ⟨fun x hx=>?_,c8M h1.2⟩
  obtain⟨p,hp,e⟩:=c8n hx
  rw [e];exact h1.1 p hp
def a5e (l:List g6)(id:Int):Int:=(l.find? fun b=>decide (id≤b.Last)).elim 0 (·.Most)
theorem c72: ∀{ps:List (Int×Nat)},(ps.Pairwise fun a b=>a.1<b.1)→∀p∈ps,(p.2:Int)≤a5e (blk ps) p.1
 | [],_,p,h=>by cases h
 | [a],_,p,h=>by
  rcases List.mem_singleton.1 h with rfl
  unfold a5e
  rw [blk,List.find?_cons,b8 (Int.le_refl _)];exact Int.le_refl _
 | a::b::r,hp,p,h=>by
  have h0:=List.pairwise_cons.1 hp
  have h1:=List.pairwise_cons.1 h0.2
  unfold a5e
  rw [blk,List.find?_cons]
  have hab:=h0.1 b (by simp)
  rcases List.mem_cons.1 h with rfl | h
  ·simp only;rw [b8 (by omega)];simp only [Option.elim_some];omega
  rcases List.mem_cons.1 h with rfl | h
  ·simp only;rw [b8 (by omega)];simp only [Option.elim_some];omega
  ·have:=h1.1 p h
   simp only
   rw [c6 (by omega)]
   exact c72 h1.2 p h
theorem c7Y (F:Nat)(l:List g6)(id:Int)(hu:UpB l)(hl:l.length≤100000)(hF:100000<F):a3w F l id=some (a5e l id):=by
 unfold a3w
 obtain⟨r,hr,he⟩:=I7 (σ:=Int) (τ:=Unit⊕Int) (f:=(fun (s14:Int)=>(cond (decide (s14<(l.length:Int))) (Option.bind (v8 l (z8 (s14-(1:Int)))) fun x28=>(Option.bind (v8 l s14) fun x39=>(cond (decide (x39.Last≤x28.Last)) (some (.inr (.inr (-1:Int)))) (some (.inl (z8 (s14+(1:Int)))))))) (some (.inr (.inl ()))))))
  (Post:=fun t=>t= .inl ()) (fun i s=>s=((i+1:Nat):Int)) (l.length-1) (fun i s hi hs=>by
   subst hs
   refine .inl ⟨_,?_,rfl⟩
   rw [b8 (by omega),j4,a0y (by omega) (by omega),Nat.add_sub_cancel,T5 (show i<l.length by omega),a8,T5 (show i+1<l.length by omega),a8]
   have:=List.pairwise_iff_getElem.1 hu i (i+1) (by omega) (by omega) (by omega)
   rw [c6 (by omega),i6,y5 (by omega)]) (fun s hs=>by
   subst hs
   exact⟨_,by rw [c6 (by omega)];rfl,rfl⟩) (l.length-1) 0 (1:Int) F (by omega) (by omega) rfl
 rw [hr,a8,he]
 simp only [Sum.elim_inl,a8]
 rw [a4P (xs:=l) (fun b=>decide (id≤b.Last)) (fun b=>b.Most) (fun i x hx=>by
  rw [n8,hx,a8];cases decide (id≤x.Last)<;>rfl)]
 unfold a5e
 cases l.find? (fun b=>decide (id≤b.Last))<;>rfl
end Go.Fk
set_option linter.unusedVariables false
set_option maxRecDepth 100000
namespace Go.Fk
open Go
theorem c89 {c:u6}{s:A5}(ho:G9 c s=true)(n t:r4):(psS c s n t).Pairwise fun a b=>a.1<b.1:=by
 obtain⟨h1,h2,h3⟩:=a0w ho
 unfold psS
 refine List.pairwise_map.2 ?_
 rw [h3,a6s]
 have key: ∀docs:List A1,(docs.Pairwise fun a b=>a.Id<b.Id)→(docs.flatMap (H6 c n t)).Pairwise fun a b=>a.Doc<b.Doc:=fun docs=>by
  induction docs with
  | nil=>intro _;exact List.Pairwise.nil
  | cons d r ih=>
   intro hp
   have hc:=List.pairwise_cons.1 hp
   rw [List.flatMap_cons]
   refine List.pairwise_append.2 ⟨?_,ih hc.2,fun a ha b hb=>?_⟩
   ·unfold H6;split
    ·exact List.pairwise_singleton _ _
    ·exact List.Pairwise.nil
   ·obtain⟨e,he,hb⟩:=List.mem_flatMap.1 hb
    have ha':a.Doc=d.Id:=by
     unfold H6 at ha;split at ha
     ·rcases List.mem_singleton.1 ha with rfl;rfl
     ·cases ha
    have hb':b.Doc=e.Id:=by
     unfold H6 at hb;split at hb
     ·rcases List.mem_singleton.1 hb with rfl;rfl
     ·cases hb
    rw [ha',hb'];exact hc.1 e he
 exact key s.Docs (a0Q h2).2.2
end Go.Fk
set_option linter.unusedVariables false
set_option maxRecDepth 100000
namespace Go.Fk
open Go
theorem c8I {w:r4}(h:D0 w=true):a2n w=true:=by
 unfold D0 at h
 unfold a2n
 simp only [q8,decide_eq_true_iff,List.all_eq_true] at h ⊢
 refine⟨fun b hb=>?_,by omega⟩
 have:=h.1 b hb
 unfold a1E at this
 unfold a8T
 simp only [Bool.or_eq_true,q8,decide_eq_true_iff,Bool.not_eq_true',Bool.or_eq_false_iff,decide_eq_false_iff_not,UInt8.le_iff_toNat_le,UInt8.lt_iff_toNat_lt] at this ⊢
 have e1:(97:UInt8).toNat=97:=rfl
 have e2:(122:UInt8).toNat=122:=rfl
 have e3:(48:UInt8).toNat=48:=rfl
 have e4:(57:UInt8).toNat=57:=rfl
 have e5:(32:UInt8).toNat=32:=rfl
 have e6:(126:UInt8).toNat=126:=rfl
 omega
def b74 (c:u6)(w:r4):r4:=if D0 w&&Y6 c then ((G2 c w)[0]?).elim [] (·.Text) else []
theorem c75 (F:Nat)(c:u6)(w:r4)(hc:c.Stops.length≤2000000)(hF:1000<F):Z7 F c w=some (b74 c w):=by
 unfold Z7 b74
 rw [O0,a8]
 cases hw:D0 w with
 | false=>rfl
 | true=>
  have hl:=O4 hw
  rw [l7,i6,a7q F c w (by omega) hc (by omega),a8,c8I hw]
  cases Y6 c with
  | false=>rfl
  | true=>
   simp only [Bool.and_self,if_true]
   cases ht:G2 c w with
   | nil=>rfl
   | cons x r=>
    rw [beq_eq_false_iff_ne.2 (by simp only [s6];omega),i6,show ((0:Int))=((0:Nat):Int) from rfl,n8];rfl
theorem c8a (F:Nat)(c:u6)(w:r4)(hc:a1K 100 c)(hcs:Y6 c=true)(hw:D0 w=true)(hF:1000<F):a3I F c w=some (b74 c w):=by
 have hl:=O4 hw
 unfold a3I b74
 rw [b5l F 100 c hc (by omega) (by omega),a8,hcs,l7,i6,a0x F w 12 hl (by omega) (by omega),a8,hw,a8,l7,i6,a7x F c w hcs (by omega) (by omega),a8]
 simp only [Bool.and_self,if_true]
 cases ht:G2 c w with
 | nil=>rfl
 | cons x r=>
  rw [beq_eq_false_iff_ne.2 (by simp only [s6];omega),i6,show ((0:Int))=((0:Nat):Int) from rfl,n8];rfl
def c6Q (c:u6)(acc:List r4)(w:r4):List r4:=if !(b74 c w==[])&& !acc.any (· ==b74 c w) then acc++[b74 c w] else acc
def b8n (c:u6)(words:List r4):List r4:=words.foldl (c6Q c) []
theorem c7i (c:u6): ∀(words acc:List r4),(words.foldl (c6Q c) acc).length≤acc.length+words.length
 | [],acc=>by simp
 | w::r,acc=>by
  rw [List.foldl_cons]
  have:=c7i c r (c6Q c acc w)
  have h2:(c6Q c acc w).length≤acc.length+1:=by unfold c6Q;split<;>simp
  simp only [s6];omega
def c7n (c:u6)(s:A5)(n:r4)(ts:List r4)(id:Int):Int:=(ts.map fun t=>a5e (blk (psS c s n t)) id).sum
def b13 (c:u6)(s:A5)(n:r4)(ts:List r4)(id:Int):Int:=(ts.map fun t=>((H2 c s n t id:Nat):Int)).sum
def c7w (bnd:Int)(hits:List E3)(most:Nat):Bool:=(bnd==0)||(decide (hits.length=most)&&(hits[most-1]?).elim false fun h=>decide (bnd≤h.Points))
def p7 (c:u6)(s:A5)(n:r4)(ts:List r4)(most:Nat)(st:List E3×Nat)(d:A1):List E3×Nat:=
 if c7w (c7n c s n ts d.Id) st.1 most then st else (if 0<b13 c s n ts d.Id then (a4E ⟨d.Id,b13 c s n ts d.Id⟩ st.1).take most else st.1,st.2+1)
def b16 (c:u6)(s:A5)(n:r4)(ts:List r4)(most:Nat):List E3×Nat:=s.Docs.foldl (p7 c s n ts most) ([],0)
theorem c7o {ps:List (Int×Nat)}(hb: ∀p∈ps,p.2≤1000000000)(id:Int):0≤a5e (blk ps) id∧a5e (blk ps) id≤1000000000:=by
 have key: ∀(ps:List (Int×Nat)),(∀p∈ps,p.2≤1000000000)→∀b∈blk ps,0≤b.Most∧b.Most≤1000000000:=fun ps=>by
  induction ps using blk.induct with
  | case1=>intro _ b h;cases h
  | case2 a=>
   intro h b hb
   rcases List.mem_singleton.1 hb with rfl
   have:=h a (by simp)
   simp only;omega
  | case3 a a' r ih=>
   intro h b hb
   rw [blk] at hb
   rcases List.mem_cons.1 hb with rfl | hb
   ·have h1:=h a (by simp)
    have h2:=h a' (by simp)
    simp only;omega
   ·exact ih (fun p hp=>h p (by simp [hp])) b hb
 unfold a5e
 cases hf:(blk ps).find? fun b=>decide (id≤b.Last) with
 | none=>simp only [Option.elim_none];omega
 | some b=>exact key ps hb b (List.mem_of_find?_eq_some hf)
theorem c8j {c:u6}{s:A5}(ho:G9 c s=true)(n t:r4): ∀p∈psS c s n t,p.2≤1000000000:=fun p hp=>by
 unfold psS at hp
 obtain⟨q,_,rfl⟩:=List.mem_map.1 hp
 exact a4b c s n t q.Doc ho
theorem c7E {α:Type}{f:α→Int}{B:Int}: ∀{l:List α},(∀x∈l,0≤f x∧f x≤B)→0≤(l.map f).sum∧(l.map f).sum≤l.length*B
 | [],_=>by simp
 | x::l,h=>by
  have h1:=h x (by simp)
  have h2:=c7E (l:=l) fun y hy=>h y (by simp [hy])
  rw [List.map_cons,List.sum_cons,s6]
  have:((l.length+1:Nat):Int)*B=(l.length:Int)*B+B:=by push_cast;rw [Int.add_mul,Int.one_mul]
  rw [this];omega
structure b4F (l:List E3)(id:Int)(most:Nat):Prop where
 hits:c4q l
 docs: ∀h∈l,h.Doc<id
 most:l.length≤most
theorem b4F.more {l:List E3}{a b:Int}{m:Nat}(h:b4F l a m)(hab:a≤b):b4F l b m:=⟨h.hits,fun x hx=>by have:=h.docs x hx;omega,h.most⟩
theorem b4F.push {l:List E3}{id:Int}{m:Nat}{p:Int}(h:b4F l id m)(hm:m≤16)(hid:1≤id∧id≤9999)(hp:1≤p):b4F ((a4E ⟨id,p⟩ l).take m) (id+1) m:=by
 have hnot:(⟨id,p⟩:E3)∉l:=fun hx=>by have:=h.docs _ hx;simp only at this;omega
 have hsub: ∀x∈(a4E ⟨id,p⟩ l).take m,x=⟨id,p⟩∨x∈l:=fun x hx=>b0B.1 (List.mem_of_mem_take hx)
 have hsorted:=b14 h.hits.sorted hnot
 refine⟨⟨fun x hx=>?_,List.Pairwise.sublist (List.take_sublist _ _) hsorted,?_,?_⟩,fun x hx=>?_,by rw [List.length_take];omega⟩
 ·rcases hsub x hx with rfl | hx
  ·exact⟨hid,hp⟩
  ·exact h.hits.rng x hx
 ·have hdl: ∀{l:List E3},(l.Pairwise fun a b=>a.Doc≠b.Doc)→(∀h∈l,h.Doc<id)→(a4E ⟨id,p⟩ l).Pairwise fun a b=>a.Doc≠b.Doc:=fun {l}=>by
   induction l with
   | nil=>intro _ _;exact List.pairwise_singleton _ _
   | cons y r ih=>
    intro hpw hlt
    have hc:=List.pairwise_cons.1 hpw
    have hy:=hlt y (by simp)
    unfold a4E
    split
    ·refine List.pairwise_cons.2 ⟨fun z hz=>?_,ih hc.2 fun z hz=>hlt z (by simp [hz])⟩
     rcases b0B.1 hz with rfl | hz
     ·simp only;omega
     ·exact hc.1 z hz
    ·refine List.pairwise_cons.2 ⟨fun z hz=>?_,hpw⟩
     have:=hlt z hz
     simp only;omega
  exact List.Pairwise.sublist (List.take_sublist _ _) (hdl h.hits.docs h.docs)
 ·rw [List.length_take];omega
 ·rcases hsub x hx with rfl | hx
  ·simp only;omega
  ·have:=h.docs x hx;omega
theorem c8A (F:Nat)(l:List E3)(id p:Int)(m:Nat)(h:b4F l id m)(hm:1≤m∧m≤16)(hid:1≤id∧id≤9999)(hp:1≤p):a33 F l ⟨id,p⟩ (m:Int)=some ((a4E ⟨id,p⟩ l).take m):=by
 have hl:=h.most
 have hdoc:b3n l id=false:=by
  unfold b3n
  rw [List.any_eq_false]
  intro x hx hk
  have:=h.docs x hx
  have:=eq_of_beq hk
  omega
 have hnd:l.Nodup:=c8i h.hits.docs
 have hnot:(⟨id,p⟩:E3)∉l:=fun hx=>by have:=h.docs _ hx;simp only at this;omega
 have hnd2:(l++[(⟨id,p⟩:E3)]).Nodup:=by
  rw [List.nodup_append]
  exact⟨hnd,by simp,fun a ha b hb e=>hnot (by rw [List.mem_singleton.1 hb] at e;exact e▸ha)⟩
 have hsame:I2 l=l:=b1M (a42 hnd).1 h.hits.sorted (a42 hnd).2.1
 unfold a33
 rw [c1S F l (by omega),a8,(c1R l).2 h.hits,l7,i6,O8,b8 (by omega),b8 (by omega),a8,u5,l7,i6,a8,c6 (by omega),i6,H4 (by simp only [List.length_nil];omega),a8,List.nil_append]
 dsimp only
 rw [b98,a8,hdoc,i6,O8,b8 (by omega),b8 (by omega),a8,u5,l7,i6,a8,c6 (by omega),i6,H4 (by rw [l8];omega),a8,c1N F _ m hnd2 (by rw [o0,l8];omega),b8B,hsame];rfl
end Go.Fk
set_option linter.unusedVariables false
set_option maxRecDepth 100000
namespace Go.Fk
open Go
theorem c8Z {c:u6}{s:A5}(ho:G9 c s=true)(n:r4)(ts:List r4)(id:Int):0≤c7n c s n ts id∧c7n c s n ts id≤ts.length*1000000000:=
 c7E fun t _=>c7o (c8j ho n t) id
theorem c8T {c:u6}{s:A5}(ho:G9 c s=true)(n:r4)(ts:List r4)(id:Int):0≤b13 c s n ts id∧b13 c s n ts id≤ts.length*1000000000:=
 c7E fun t _=>by have:=a4b c s n t id ho;omega
theorem c7I {α β:Type}(f:α→β): ∀l:List α,(l.flatMap fun x=>[f x])=l.map f
 | []=>rfl
 | x::l=>by rw [List.flatMap_cons,c7I f l];rfl
theorem c7R {c:u6}{s:A5}(ho:G9 c s=true)(n t:r4):(blk (psS c s n t)).length≤10000:=by
 have:=(a4A ho n t).1
 rw [c0y]
 unfold psS
 rw [List.length_map];omega
theorem c7L {α:Type}(f:α→Int)(l:List α)(i:Nat)(hi:i<l.length):((l.take (i+1)).map f).sum=((l.take i).map f).sum+f l[i]:=by
 rw [List.take_succ_eq_append_getElem hi,List.map_append,List.sum_append];simp
theorem c8B {c:u6}{s:A5}(n:r4)(ts:List r4)(id:Int)(ho:G9 c s=true)(hl:ts.length≤100){f:Nat→Int×Int→Option (Int×Int)}
  (hf: ∀(i:Nat) t (a b:Int),ts[i]? =some t→f i (a,b)=some (z8 (a+a5e (blk (psS c s n t)) id),z8 (b+((H2 c s n t id:Nat):Int)))):a0C f ts.length 0 ((0:Int),(0:Int))=some (c7n c s n ts id,b13 c s n ts id):=by
 obtain⟨r,hr,he⟩:=a6T (σ:=Int×Int) (f:=f) (fun i st=>st=(c7n c s n (ts.take i) id,b13 c s n (ts.take i) id)) ts.length (fun i st hi hst=>by
  subst hst
  have h1:=c8Z ho n (ts.take (i+1)) id
  have h2:=c8T ho n (ts.take (i+1)) id
  have h3:(ts.take (i+1)).length≤100:=by rw [List.length_take];omega
  have e1:c7n c s n (ts.take (i+1)) id=c7n c s n (ts.take i) id+a5e (blk (psS c s n ts[i])) id:=c7L _ ts i hi
  have e2:b13 c s n (ts.take (i+1)) id=b13 c s n (ts.take i) id+((H2 c s n ts[i] id:Nat):Int):=c7L _ ts i hi
  refine⟨_,hf i _ _ _ (j8 hi),?_⟩
  rw [e1,e2,C5 ⟨by omega,by omega⟩,C5 ⟨by omega,by omega⟩]) ts.length 0 ((0:Int),(0:Int)) (by omega) rfl
 rw [hr,he,List.take_length]
theorem c85 (bnd:Int)(hits:List E3)(m:Nat)(hm:1≤m)(hl:hits.length≤m)(hb:m≤16):(cond (bnd==(0:Int)) (some true) (cond ((hits.length:Int)==(m:Int)) (Option.bind (v8 hits (z8 ((hits.length:Int)-(1:Int)))) fun x439=>(some (decide (bnd≤x439.Points)))) (some false)))=some (c7w bnd hits m):=by
 unfold c7w
 cases bnd==0 with
 | true=>rfl
 | false=>
  rw [i6,Bool.false_or]
  by_cases h:hits.length=m
  ·rw [beq_iff_eq.2 (by omega),j4,a0y (by omega) (by omega),n8,b8 h,u5,h,j8 (show m-1<hits.length by omega)];rfl
  ·rw [beq_eq_false_iff_ne.2 (by omega),c6 h];rfl
structure c6P (docs:List A1)(m i:Nat)(st:List E3×Nat):Prop where
 to: ∀j,(hj:j<docs.length)→i≤j→b4F st.1 docs[j].Id m
 few:st.1.length≤m
 less:st.1.length≤st.2
 looks:st.2≤i
theorem c8y {c:u6}{s:A5}{n:r4}{ts:List r4}{m i:Nat}{st:List E3×Nat}(hd:a1I s.Docs=true)(hm:1≤m∧m≤16)(hi:i<s.Docs.length)(h:c6P s.Docs m i st):c6P s.Docs m (i+1) (p7 c s n ts m st s.Docs[i]):=by
 obtain⟨i1,i2,i3⟩:=a0Q hd
 have hid:=i2 _ (List.getElem_mem hi)
 have hup: ∀j,(hj:j<s.Docs.length)→i+1≤j→s.Docs[i].Id+1≤s.Docs[j].Id:=fun j hj hij=>by
  have:=List.pairwise_iff_getElem.1 i3 i j hi hj (by omega)
  omega
 unfold p7
 split
 ·exact⟨fun j hj hij=>h.to j hj (by omega),h.few,h.less,by have:=h.looks;omega⟩
 ·by_cases hp:0<b13 c s n ts s.Docs[i].Id
  ·rw [if_pos hp]
   have hpu:=(h.to i hi (Nat.le_refl _)).push hm.2 hid (show 1≤b13 c s n ts s.Docs[i].Id by omega)
   refine⟨fun j hj hij=>hpu.more (hup j hj hij),hpu.most,?_,?_⟩
   ·show ((a4E _ st.1).take m).length≤st.2+1
    rw [List.length_take,a6V]
    have:=h.less;omega
   ·show st.2+1≤i+1
    have:=h.looks;omega
  ·rw [if_neg hp]
   exact⟨fun j hj hij=>h.to j hj (by omega),h.few,by have:=h.less;show st.1.length≤st.2+1;omega,by have:=h.looks;show st.2+1≤i+1;omega⟩
theorem c8e (docs:List A1)(m:Nat):c6P docs m 0 ([],0):=
 ⟨fun j hj _=>⟨⟨fun h hh=>(by cases hh),List.Pairwise.nil,List.Pairwise.nil,Nat.zero_le _⟩,fun h hh=>(by cases hh),Nat.zero_le _⟩,Nat.zero_le _,Nat.le_refl _,Nat.le_refl _⟩
theorem c7D {c:u6}{s:A5}(n:r4)(ts:List r4){m:Nat}(hd:a1I s.Docs=true)(hm:1≤m∧m≤16): ∀i,i≤s.Docs.length→c6P s.Docs m i ((s.Docs.take i).foldl (p7 c s n ts m) ([],0))
 | 0,_=>c8e _ _
 | i+1,h=>by
  rw [List.take_succ_eq_append_getElem (show i<s.Docs.length by omega),List.foldl_append]
  exact c8y hd hm (by omega) (c7D n ts hd hm i (by omega))
theorem c8O {c:u6}{s:A5}(n:r4)(ts:List r4){m:Nat}(hd:a1I s.Docs=true)(hm:1≤m∧m≤16):c6P s.Docs m s.Docs.length (b16 c s n ts m):=by
 have:=c7D (c:=c) n ts hd hm s.Docs.length (Nat.le_refl _)
 rw [List.take_length] at this
 exact this
def a6v (c:u6)(s:A5)(n:r4)(words:List r4)(most:Int):List E3×Int:=
 if (G9 c s&&(D0 n&&((decide (1≤(words.length:Int))&&decide ((words.length:Int)≤4))&&(decide (1≤most)&&decide (most≤16)))))&&words.all D0 then ((b16 c s n (b8n c words) most.toNat).1,((b16 c s n (b8n c words) most.toNat).2:Int)) else ([], -1)
theorem c7V (F:Nat)(xs:List r4)(v:r4):L2 F xs v=some (xs.any (· ==v)):=a6A F xs v
theorem c81 {c:u6}{words:List r4}(ok:Bool)(hl:words.length≤100){f:Nat→Bool×List r4→Option (Bool×List r4)}
  (hf: ∀(i:Nat) w b acc,words[i]? =some w→acc.length≤100→f i (b,acc)=some (b&&D0 w,c6Q c acc w)):a0C f words.length 0 (ok,([]:List r4))=some (ok&&words.all D0,b8n c words):=by
 obtain⟨r,hr,he⟩:=a6T (σ:=Bool×List r4) (f:=f) (fun i st=>st=(ok&&(words.take i).all D0,(words.take i).foldl (c6Q c) [])) words.length (fun i st hi hst=>by
  subst hst
  have hlen:=c7i c (words.take i) []
  rw [List.length_take] at hlen
  simp only [List.length_nil,Nat.zero_add] at hlen
  refine⟨_,hf i _ _ _ (j8 hi) (by omega),?_⟩
  rw [List.take_succ_eq_append_getElem hi,List.all_append,List.foldl_append]
  simp [Bool.and_assoc]) words.length 0 (ok,[]) (by omega) (by simp)
 rw [hr,he,List.take_length];rfl
theorem c9b {c:u6}{s:A5}(n:r4)(ts:List r4){m:Nat}(k2:a1I s.Docs=true)(hm:1≤m∧m≤16){f:Nat→List E3×Int→Option (List E3×Int)}
  (hf: ∀(i:Nat) d hits (looks:Nat),s.Docs[i]? =some d→i<s.Docs.length→(1≤d.Id∧d.Id≤9999)→b4F hits d.Id m→looks≤i→f i (hits,(looks:Int))=some ((p7 c s n ts m (hits,looks) d).1,(((p7 c s n ts m (hits,looks) d).2:Nat):Int))):
  a0C f s.Docs.length 0 (([]:List E3),(0:Int))=some ((b16 c s n ts m).1,(((b16 c s n ts m).2:Nat):Int)):=by
 obtain⟨r,hr,he⟩:=a6T (σ:=List E3×Int) (f:=f) (fun i st=>st=(((s.Docs.take i).foldl (p7 c s n ts m) ([],0)).1,((((s.Docs.take i).foldl (p7 c s n ts m) ([],0)).2:Nat):Int))) s.Docs.length (fun i st hi hst=>by
  subst hst
  have hinv:=c7D (c:=c) n ts k2 hm i (by omega)
  have hid:=(a0Q k2).2.1 _ (List.getElem_mem hi)
  refine⟨_,hf i s.Docs[i] _ _ (j8 hi) hi hid (hinv.to i hi (Nat.le_refl _)) hinv.looks,?_⟩
  rw [List.take_succ_eq_append_getElem hi,List.foldl_append];rfl) s.Docs.length 0 (([]:List E3),(0:Int)) (by omega) rfl
 rw [hr,he,List.take_length];rfl
theorem c7M (F:Nat)(c:u6)(s:A5)(n:r4)(words:List r4)(most:Int)(hd:X3 s.Docs)(hc:a1K 100 c)(hw:words.length≤50)(hF:1000000000<F):a0a F c s n words most=some (a6v c s n words most):=by
 have hfew:=hd.few
 have hst:=hc.stops
 unfold a0a a6v
 have hok:((Option.bind (H8 F c s) fun r38=>(cond r38 (Option.bind (H1 F n) fun r48=>(cond r48 (Option.bind (B3 F (words.length:Int) (1:Int) (4:Int)) fun r58=>(cond r58 (Option.bind (B3 F most (1:Int) (16:Int)) fun r68=>(some r68)) (some false))) (some false))) (some false))):Option Bool)=some (G9 c s&&(D0 n&&((decide (1≤(words.length:Int))&&decide ((words.length:Int)≤4))&&(decide (1≤most)&&decide (most≤16))))):=by
  rw [a1T F c s (by omega) (by omega) (by omega),a8]
  cases G9 c s with
  | false=>rfl
  | true=>
   rw [j4,O0,a8]
   cases D0 n with
   | false=>rfl
   | true=>
    rw [j4,O8,a8]
    cases (decide (1≤(words.length:Int))&&decide ((words.length:Int)≤4)) with
    | false=>rfl
    | true=>rw [j4,O8];rfl
 rw [hok,a8]
 generalize hb:(G9 c s&&(D0 n&&((decide (1≤(words.length:Int))&&decide ((words.length:Int)≤4))&&(decide (1≤most)&&decide (most≤16)))))=ok
 rw [c81 (c:=c) (words:=words) ok (by omega) (fun i w b acc hx hacc=>?_),a8,a8]
 ·dsimp only
  cases hall:ok&&words.all D0 with
  | false=>rfl
  | true=>
   rw [l7,i6,if_pos rfl]
   rw [q8] at hall
   have hb2:=hall.1
   rw [←hb] at hb2
   simp only [q8,decide_eq_true_iff] at hb2
   obtain⟨ho,hwn,⟨hw1,hw2⟩,hm1,hm2⟩:=hb2
   obtain⟨k1,k2,k3⟩:=a0w ho
   have hul:=c7i c words []
   have hul2:(b8n c words).length≤4:=by
    unfold b8n
    simp only [List.length_nil,Nat.zero_add] at hul;omega
   generalize hts:b8n c words=ts at *
   obtain⟨m,rfl⟩: ∃m:Nat,most=(m:Int):=⟨most.toNat,by omega⟩
   rw [Int.toNat_natCast]
   have hblocks:a0C (fun (i227:Nat) (s223:(List (List g6)))=>(Option.bind (v8 ts ((i227:Nat):Int)) fun x244=>(Option.bind (m9 F (T0.mk c s) n x244) fun r254=>(Option.bind (O2 24 s223 ([r254]:List (List g6))) fun x274=>(some x274))))) ts.length 0 ([]:List (List g6))=some (ts.map fun t=>blk (psS c s n t)):=by
    rw [a7o (xs:=ts) (fun t=>[blk (psS c s n t)]) 1000 (fun i x acc hx hB=>?_) [] (by rw [c7I];simp;omega),c7I]
    ·rfl
    ·rw [n8,hx,a8,c74 F c s n x ho hF,a8,H4 (by rw [o0] at hB;rw [l8] at *;omega)];rfl
   rw [hblocks,a8,a8]
   rw [c9b (c:=c) (s:=s) n ts (m:=m) k2 (by omega) (fun i d hits looks hx hi hid hto hlk=>?_),a8,a8]
   dsimp only
   rw [n8,hx,a8,c8B (c:=c) (s:=s) n ts d.Id ho (by omega) (fun k t a b hx=>by
    rw [n8,hx,a8,n8,List.getElem?_map,hx,Option.map_some,a8,c7Y F _ _ (c8M (c89 ho n t)) (by have:=c7R ho n t;omega) (by omega),a8,a8j F c s n t _ ho hF,a8]),a8,a8]
   dsimp only
   rw [c85 _ hits m (by omega) hto.most (by omega),a8]
   unfold p7
   dsimp only
   cases c7w (c7n c s n ts d.Id) hits m with
   | true=>rfl
   | false=>
    rw [i6,if_neg (by simp),y5 (by omega)]
    by_cases hp:0<b13 c s n ts d.Id
    ·rw [b8 hp,j4,if_pos hp,c8A F hits _ _ m hto (by omega) hid (by omega)];rfl
    ·rw [c6 hp,i6,if_neg hp]
 ·dsimp only
  rw [n8,hx,a8,O0,c75 F c w (by omega) (by omega)]
  have e1:(cond b (Option.bind (some (D0 w)) fun r135=>some r135) (some false))=some (b&&D0 w):=by cases b<;>rfl
  rw [e1,a8,a8,c7V]
  unfold c6Q
  cases hte:b74 c w==[] with
  | true=>rfl
  | false=>
   simp only [Bool.not_false,j4,a8,u5]
   cases acc.any (· ==b74 c w) with
   | true=>rfl
   | false=>
    simp only [Bool.not_false,j4,if_true]
    rw [H4 (by rw [l8];omega)];rfl
end Go.Fk
set_option linter.unusedVariables false
set_option maxRecDepth 100000
namespace Go.Fk
open Go
theorem c8l {c:u6}{s:A5}{n:r4}{ts:List r4}(hl:ts.length≤100)(F:Nat)(hF:1000<F){f:List (List g6)×Int→Option ((List (List g6)×Int)⊕List (List g6))}
  (hf: ∀(i:Nat) t acc,ts[i]? =some t→acc.length≤100→f (acc,(i:Int))=some (.inl (acc++[blk (psS c s n t)],((i+1:Nat):Int))))(h0: ∀acc,f (acc,(ts.length:Int))=some (.inr acc)):
  y2 f F (([]:List (List g6)),(0:Int))=some (ts.map fun t=>blk (psS c s n t)):=by
 have h:=Y1 (xs:=ts) (fun acc t=>acc++[blk (psS c s n t)]) (fun i acc=>acc=(ts.take i).map fun t=>blk (psS c s n t)) (fun acc=>acc) (fun acc i=>(acc,i)) (f:=f) (s0:=(([]:List (List g6)),(0:Int))) [] rfl F (by omega) (by simp) (fun i t acc hx hacc=>?_) (fun acc _=>h0 acc)
 ·rw [h.1,h.2,List.take_length]
 ·have hi:=(i4.1 hx).1
  refine⟨hf i t acc hx (by rw [hacc,List.length_map,List.length_take];omega),?_⟩
  have e:ts[i]=t:=(i4.1 hx).2
  rw [hacc,List.take_succ_eq_append_getElem hi,List.map_append,e];rfl
theorem c7U {ts:List r4}(g:r4→Int)(B:Int)(hB:B≤1000000000)(hg: ∀t∈ts,0≤g t∧g t≤B)(hl:ts.length≤100)(F:Nat)(hF:1000<F){σ σ':Type}(mk:Int→Int→σ)(e:Int→σ'){f:σ→Option (σ⊕σ')}
  (hf: ∀(i:Nat) t a,ts[i]? =some t→f (mk a (i:Int))=some (.inl (mk (z8 (a+g t)) ((i+1:Nat):Int))))(h0: ∀a,f (mk a (ts.length:Int))=some (.inr (e a))):
  y2 f F (mk 0 0)=some (e (ts.map g).sum):=by
 have h:=Y1 (xs:=ts) (fun a t=>a+g t) (fun i a=>a=((ts.take i).map g).sum) e (fun a i=>mk a i) (f:=f) (s0:=mk 0 0) 0 rfl F (by omega) (by simp) (fun i t a hx ha=>?_) (fun a _=>h0 a)
 ·rw [h.1,h.2,List.take_length]
 ·have hi:=(i4.1 hx).1
  have et:ts[i]=t:=(i4.1 hx).2
  have e1:((ts.take (i+1)).map g).sum=((ts.take i).map g).sum+g t:=by rw [←et];exact c7L g ts i hi
  have hr:=c7E (f:=g) (B:=B) (l:=ts.take (i+1)) fun x hx=>hg x (List.mem_of_mem_take hx)
  have hl2:((ts.take (i+1)).length:Int)≤100:=by rw [List.length_take];omega
  have hb:((ts.take (i+1)).length:Int)*B≤100*1000000000:=by
   have h0:0≤B:=by have:=hg t (n5 hx);omega
   exact Int.mul_le_mul hl2 hB h0 (by omega)
  refine⟨?_,by rw [e1,←ha]⟩
  rw [hf i t a hx,C5 ⟨by rw [ha,←e1];omega,by rw [ha,←e1];omega⟩]
theorem c8F (F:Nat)(l:List g6)(id:Int)(hl:l.length≤100000)(hF:100000<F):a4v F l id=some (a5e l id):=by
 unfold a4v a5e
 rw [a0u (xs:=l) (fun b=>decide (id≤b.Last)) (fun b=>(.inr b.Most:Unit⊕Int)) (e:=.inl ()) F (by omega) (fun i x hx=>?_) ?_]
 ·cases l.find? (fun b=>decide (id≤b.Last))<;>rfl
 ·rw [c6 (by omega)];rfl
 ·have hi:=(i4.1 hx).1
  rw [b8 (by omega),j4,n8,hx,a8,a8,y5 (by omega)]
  cases decide (id≤x.Last)<;>rfl
theorem c8D (bnd:Int)(hits:List E3)(m:Nat)(hm:1≤m)(hl:hits.length≤m)(hb:m≤16):(cond (bnd==(0:Int)) (some true) (cond ((hits.length:Int)==(m:Int)) (Option.bind (v8 hits (z8 ((m:Int)-(1:Int)))) fun x439=>(some (decide (bnd≤x439.Points)))) (some false)))=some (c7w bnd hits m):=by
 unfold c7w
 cases bnd==0 with
 | true=>rfl
 | false=>
  rw [i6,Bool.false_or]
  by_cases h:hits.length=m
  ·rw [beq_iff_eq.2 (by omega),j4,a0y (by omega) (by omega),n8,b8 h,u5,j8 (show m-1<hits.length by omega)];rfl
  ·rw [beq_eq_false_iff_ne.2 (by omega),c6 h];rfl
theorem c80 {c:u6}{s:A5}(n:r4)(ts:List r4){m:Nat}(k2:a1I s.Docs=true)(hm:1≤m∧m≤16)(F:Nat)(hF:1000<F){f:List E3×Int×Int→Option ((List E3×Int×Int)⊕(List E3×Int))}
  (hf: ∀(i:Nat) d hits (looks:Nat),s.Docs[i]? =some d→i<s.Docs.length→i<16→(1≤d.Id∧d.Id≤9999)→b4F hits d.Id m→looks≤i→f (hits,(looks:Int),(i:Int))=some (.inl ((p7 c s n ts m (hits,looks) d).1,(((p7 c s n ts m (hits,looks) d).2:Nat):Int),((i+1:Nat):Int))))
  (h0: ∀hits looks,f (hits,looks,(s.Docs.length:Int))=some (.inr (hits,looks))):
  y2 f F (([]:List E3),(0:Int),(0:Int))=some ((b16 c s n ts m).1,(((b16 c s n ts m).2:Nat):Int)):=by
 have hdl:=(a0Q k2).1
 obtain⟨r,hr,he⟩:=I7 (σ:=List E3×Int×Int) (τ:=List E3×Int) (f:=f) (Post:=fun t=>t=((b16 c s n ts m).1,(((b16 c s n ts m).2:Nat):Int))) (fun i st=>st=(((s.Docs.take i).foldl (p7 c s n ts m) ([],0)).1,((((s.Docs.take i).foldl (p7 c s n ts m) ([],0)).2:Nat):Int),(i:Int))) s.Docs.length (fun i st hi hst=>by
  subst hst
  have hinv:=c7D (c:=c) n ts k2 hm i (by omega)
  have hid:=(a0Q k2).2.1 _ (List.getElem_mem hi)
  refine .inl ⟨_,hf i s.Docs[i] _ _ (j8 hi) hi (by omega) hid (hinv.to i hi (Nat.le_refl _)) hinv.looks,?_⟩
  rw [List.take_succ_eq_append_getElem hi,List.foldl_append];rfl) (fun st hst=>by
  subst hst
  refine⟨_,h0 _ _,?_⟩
  rw [List.take_length];rfl) s.Docs.length 0 (([]:List E3),(0:Int),(0:Int)) F (by omega) (by omega) rfl
 rw [hr,he]
theorem c8E (F:Nat)(c:u6)(s:A5)(n:r4)(ts:List r4)(m:Nat)(ho:G9 c s=true)(hm:1≤m∧m≤16)(hl:ts.length≤100)(hF:1000000000<F):a38 F c s n ts (m:Int)=some ((b16 c s n ts m).1,(((b16 c s n ts m).2:Nat):Int)):=by
 obtain⟨k1,k2,k3⟩:=a0w ho
 have hdl:=(a0Q k2).1
 unfold a38
 rw [c8l (c:=c) (s:=s) (n:=n) hl F (by omega) (fun i t acc hx hacc=>?_) (fun acc=>?_),a8,a8]
 ·rw [c80 (c:=c) (s:=s) n ts k2 hm F (by omega) (fun i d hits looks hx hi h16 hid hto hlk=>?_) (fun hits looks=>?_),a8,a8]
  ·dsimp only
   rw [b8 (by omega),j4,n8,hx,a8]
   rw [c7U (fun t=>a5e (blk (psS c s n t)) d.Id) 1000000000 (by omega) (fun t _=>c7o (c8j ho n t) _) hl F (by omega) (fun a i=>(a,i)) (fun a=>a) (fun k t a hx=>by
    have hk:=(i4.1 hx).1
    dsimp only
    rw [b8 (by omega),j4,n8,List.getElem?_map,hx,Option.map_some,a8,c8F F _ _ (by have:=c7R ho n t;omega) (by omega),a8,y5 (by omega)]) (fun a=>by
    dsimp only
    rw [c6 (by omega)];rfl),a8,a8]
   rw [show (ts.map fun t=>a5e (blk (psS c s n t)) d.Id).sum=c7n c s n ts d.Id from rfl,c8D _ hits m hm.1 hto.most hm.2,a8,y5 (by omega)]
   unfold p7
   dsimp only
   cases c7w (c7n c s n ts d.Id) hits m with
   | true=>rfl
   | false=>
    rw [i6,if_neg (by simp)]
    rw [c7U (fun t=>((H2 c s n t d.Id:Nat):Int)) 1000000000 (by omega) (fun t _=>by have:=a4b c s n t d.Id ho;omega) hl F (by omega) (fun a k=>(k,E3.mk d.Id a)) (fun a=>E3.mk d.Id a) (fun k t a hx=>by
     have hk:=(i4.1 hx).1
     dsimp only
     rw [b8 (by omega),j4,n8,hx,a8,a8N F c s n t _ ho hF,a8,y5 (by omega)]) (fun a=>by
     dsimp only
     rw [c6 (by omega)];rfl),a8,a8]
    rw [show (ts.map fun t=>((H2 c s n t d.Id:Nat):Int)).sum=b13 c s n ts d.Id from rfl]
    dsimp only
    rw [y5 (by omega)]
    have hfw:=hto.most
    by_cases hp:0<b13 c s n ts d.Id
    ·rw [b8 hp,j4,if_pos hp,c3n F hits _ m (by omega) (by omega)];rfl
    ·rw [c6 hp,i6,if_neg hp]
  ·dsimp only
   rw [c6 (by omega)];rfl
 ·have hi:=(i4.1 hx).1
  dsimp only
  rw [b8 (by omega),j4,n8,hx,a8,c79 F c s n t ho hF,a8,H4 (by rw [l8];omega),a8,y5 (by omega)]
 ·dsimp only
  rw [c6 (by omega)];rfl
theorem c7P (F:Nat)(words:List r4)(hl:words.length≤100)(hw: ∀w∈words,w.length≤1000)(hF:3000<F):R6 F words 4=some (words.all D0&&(decide (1≤(words.length:Int))&&decide ((words.length:Int)≤4))):=by
 unfold R6
 rw [a1R (xs:=words) D0 F (by omega) (fun i x hx=>?_) ?_]
 ·cases words.all D0 with
  | false=>rfl
  | true=>
   show Option.bind (G0 F (words.length:Int) 1 4) _=_
   rw [inS];rfl
 ·rw [c6 (by omega)];rfl
 ·have hi:=(i4.1 hx).1
  have hxl:=hw x (n5 hx)
  rw [b8 (by omega),j4,n8,hx,a8,a0x F x 1000 hxl (by omega) (by omega),a8,y5 (by omega)]
  cases D0 x<;>rfl
theorem c8b {c:u6}{words:List r4}(hl:words.length≤100)(F:Nat)(hF:1000<F){f:List r4×Int→Option ((List r4×Int)⊕List r4)}
  (hf: ∀(i:Nat) w acc,words[i]? =some w→acc.length≤100→f (acc,(i:Int))=some (.inl (c6Q c acc w,((i+1:Nat):Int))))(h0: ∀acc,f (acc,(words.length:Int))=some (.inr acc)):
  y2 f F (([]:List r4),(0:Int))=some (b8n c words):=by
 have h:=Y1 (xs:=words) (c6Q c) (fun i acc=>acc.length≤i) (fun acc=>acc) (fun acc i=>(acc,i)) (f:=f) (s0:=(([]:List r4),(0:Int))) [] rfl F (by omega) (by simp) (fun i w acc hx hacc=>?_) (fun acc _=>h0 acc)
 ·rw [h.1];rfl
 ·have hi:=(i4.1 hx).1
  refine⟨hf i w acc hx (by omega),?_⟩
  unfold c6Q
  split
  ·rw [o0,l8];omega
  ·omega
theorem c7Q (F:Nat)(c:u6)(s:A5)(n:r4)(words:List r4)(most:Int)(hd:X3 s.Docs)(hc:a1K 100 c)(hn:n.length≤1000)(hw:words.length≤50)(hwl: ∀w∈words,w.length≤1000)(hF:1000000000<F):a0D F c s n words most=some (a6v c s n words most):=by
 unfold a0D a6v
 have hok:((Option.bind (a0N F c s) fun r38=>(cond (!r38) (some true) (Option.bind (E5 F n) fun r49=>(cond (!r49) (some true) (Option.bind (R6 F words (4:Int)) fun r60=>(cond (!r60) (some true) (Option.bind (G0 F most (1:Int) (16:Int)) fun r71=>(some (!r71))))))))):Option Bool)=some (!((G9 c s&&(D0 n&&((decide (1≤(words.length:Int))&&decide ((words.length:Int)≤4))&&(decide (1≤most)&&decide (most≤16)))))&&words.all D0)):=by
  rw [a9a F 100 c s hd hc (by omega) (by omega),a8]
  cases G9 c s with
  | false=>rfl
  | true=>
   rw [l7,i6,a0x F n 1000 hn (by omega) (by omega),a8]
   cases D0 n with
   | false=>rfl
   | true=>
    rw [l7,i6,c7P F words (by omega) hwl (by omega),a8,inS,a8]
    cases words.all D0<;>cases (decide (1≤(words.length:Int))&&decide ((words.length:Int)≤4))<;>cases (decide (1≤most)&&decide (most≤16))<;>rfl
 rw [hok,a8]
 cases hall:(G9 c s&&(D0 n&&((decide (1≤(words.length:Int))&&decide ((words.length:Int)≤4))&&(decide (1≤most)&&decide (most≤16)))))&&words.all D0 with
 | false=>rfl
 | true=>
  simp only [q8,decide_eq_true_iff] at hall
  obtain⟨⟨ho,hwn,⟨hw1,hw2⟩,hm1,hm2⟩,hwa⟩:=hall
  obtain⟨k1,k2,k3⟩:=a0w ho
  rw [l7,i6,if_pos rfl]
  rw [c8b (c:=c) (words:=words) (by omega) F (by omega) (fun i w acc hx hacc=>?_) (fun acc=>?_),a8,a8]
  ·have hul:=c7i c words []
   have hul2:(b8n c words).length≤4:=by
    unfold b8n
    simp only [List.length_nil,Nat.zero_add] at hul;omega
   obtain⟨m,rfl⟩: ∃m:Nat,most=(m:Int):=⟨most.toNat,by omega⟩
   rw [Int.toNat_natCast,c8E F c s n _ m ho (by omega) (by omega) hF];rfl
  ·have hi:=(i4.1 hx).1
   have hws:=List.all_eq_true.1 hwa w (n5 hx)
   dsimp only
   rw [b8 (by omega),j4,n8,hx,a8,c8a F c w hc k1 hws (by omega),a8,b4i F acc _ (by omega) (by omega),y5 (by omega)]
   unfold c6Q
   cases hte:b74 c w==[] with
   | true=>rfl
   | false=>
    simp only [Bool.not_false,j4,a8,u5]
    cases acc.any (· ==b74 c w) with
    | true=>rfl
    | false=>
     simp only [Bool.not_false,j4,if_true]
     rw [H4 (by rw [l8];omega)];rfl
  ·dsimp only
   rw [c6 (by omega)];rfl
theorem c73 (F:Nat)(l:List E3)(hl:l.length≤1000)(hF:2000<F):M5 F l l=some true:=by
 unfold M5
 rw [beq_self_eq_true,l7,i6,b2T (n:=l.length) F (by omega) (fun i hi=>?_) ?_]
 ·rfl
 ·rw [c6 (by omega)];rfl
 ·rw [b8 (by omega),j4,T5 hi,a8,a8,beq_self_eq_true,beq_self_eq_true,y5 (by omega)];rfl
theorem c7x (F:Nat)(code:List UInt8)(hF:200000<F): ∃c s n words most,p8 F code=some (c,s,n,words,most)∧a1K 100 c∧X3 s.Docs∧n.length≤10∧words.length≤10∧∀w∈words,w.length≤1000:=by
 unfold p8
 obtain⟨r,hr,h1,h2⟩:=b0Q F code
 rw [hr,a8]
 obtain⟨c,s,p,hs,⟨p0,p1⟩,hcd,hsf,_⟩:=a8Y F r ⟨h1,by omega,by omega⟩ hF
 rw [hs,a8]
 dsimp only
 obtain⟨k,hk,k0,k1⟩:=O3 F ⟨r.b_,p⟩ 5 ⟨h1,by simp only;omega,by simp only;omega⟩
 have k1:=k1 (by omega)
 rw [hk,a8]
 dsimp only
 obtain⟨k,rfl⟩: ∃kk:Nat,k=(kk:Int):=⟨k.toNat,by omega⟩
 obtain⟨t,ht,hb,hp0,hp1,hlen,hall⟩:=I7 (σ:=(List r4)×Int×z7) (τ:=(List r4)×z7) (f:=(fun (s107:(List r4)×Int×z7)=>(cond (decide ((0:Int)<s107.2.1)) (Option.bind (a0I F) fun r139=>(Option.bind (I1 F s107.2.2 r139) fun r151=>(Option.bind (O2 16 s107.1 ([r151.1]:List r4)) fun x173=>(some (.inl (x173,(z8 (s107.2.1-(1:Int))),r151.2)))))) (some (.inr (s107.1,s107.2.2))))))
  (Post:=fun t=>t.2.b_=r.b_∧0≤t.2.p_∧t.2.p_≤200000∧t.1.length≤10∧∀w∈t.1,w.length≤1000) (fun i st=>st.2.1=((k-i:Nat):Int)∧st.1.length≤i∧(∀w∈st.1,w.length≤1000)∧st.2.2.b_=r.b_∧0≤st.2.2.p_∧st.2.2.p_≤100000+i) k (fun i st hi hst=>by
   obtain⟨s1,s2,b,q⟩:=st
   obtain⟨e1,e2,e3,e4,e5,e6⟩:=hst
   simp only at e1 e2 e3 e4 e5 e6
   subst e1
   subst e4
   refine .inl ?_
   dsimp only
   unfold a0I
   rw [b8 (by omega),j4,a8]
   obtain⟨w,hwm,hw⟩:=a8q F ⟨r.b_,q⟩ [[99,97,116],[99,97,116,115],[100,111,103],[100,111,103,115],[114,117,110],[114,117,110,110,105,110,103],[116,104,101],[114,101,100],[98,105,103],[110,101,119],[121,111,114,107],[110,121],[102,111,120]] ⟨h1,e5,by simp only;omega⟩ (by simp)
   have hwl:w.length≤1000:=by
    have hcheck: ∀x∈([[99,97,116],[99,97,116,115],[100,111,103],[100,111,103,115],[114,117,110],[114,117,110,110,105,110,103],[116,104,101],[114,101,100],[98,105,103],[110,101,119],[121,111,114,107],[110,121],[102,111,120]]:List r4),x.length≤1000:=by decide
    exact hcheck w hwm
   rw [hw,a8,H4 (by rw [l8];omega),a8,a0y (by omega) (by omega)]
   refine⟨_,rfl,?_,?_,?_,rfl,by simp only;omega,by simp only;omega⟩
   ·simp only;omega
   ·simp only [o0,l8];omega
   ·intro x hx
    rcases List.mem_append.1 hx with hx | hx
    ·exact e3 x hx
    ·rcases List.mem_singleton.1 hx with rfl;exact hwl) (fun st hst=>by
   obtain⟨s1,s2,b,q⟩:=st
   obtain⟨e1,e2,e3,e4,e5,e6⟩:=hst
   simp only at e1 e2 e3 e4 e5 e6
   subst e1
   dsimp only
   rw [c6 (by omega)]
   exact⟨_,rfl,e4,e5,by simp only;omega,by simp only;omega,e3⟩) k 0 (([]:List r4),(k:Int),⟨r.b_,p+1⟩) F (by omega) (by omega) ⟨by simp,by simp,by simp,rfl,by simp only;omega,by simp only;omega⟩
 rw [ht,a8,a8]
 dsimp only
 obtain⟨n,q,hn,⟨q0,q1⟩,hnl⟩:=c8C F t.2 ⟨by rw [hb];exact h1,hp0,by omega⟩
 rw [hn,a8]
 dsimp only
 obtain⟨m,_,hmm⟩:=b8r F ⟨t.2.b_,q⟩ [1,1,2,3,16,0] ⟨by rw [hb];exact h1,by simp only;omega,by simp only;omega⟩ (by simp)
 rw [hmm,a8]
 exact⟨_,_,_,_,_,rfl,hcd.fit,hsf,hnl,hlen,hall⟩
end Go.Fk
