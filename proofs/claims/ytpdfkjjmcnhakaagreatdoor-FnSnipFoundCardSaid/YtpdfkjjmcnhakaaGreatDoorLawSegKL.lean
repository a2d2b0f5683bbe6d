import Derived.Test.YtpdfkjjmcnhakaaGreatDoorLawSegIJ
/-
  The program's segment is the reference's. Of no program.
-/
set_option linter.unusedVariables false
namespace Go.Fk
open Go
theorem b8O (F:Nat)(a b:Int):a0W F [a,b]=some (if a=0 then b else a):=by
 unfold a0W
 simp only [l9,List.length_nil,y6]
 have g0:p8 [a,b] ((0:Nat):Int)=some a:=rfl
 have g1:p8 [a,b] ((0+1:Nat):Int)=some b:=rfl
 rw [g0]
 by_cases h:a=0
 ·subst h
  simp only [a8,beq_self_eq_true,n5,i9,Sum.elim_inl]
  rw [g1]
  by_cases hb:b=0
  ·subst hb;rfl
  ·rw [a8,beq_eq_false_iff_ne.2 hb];rfl
 ·rw [a8,beq_eq_false_iff_ne.2 h,if_neg h];rfl
def b8P (a b:v8):Int:=if a9j a.Field b.Field=0 then a9j a.Term b.Term else a9j a.Field b.Field
theorem b3I (F:Nat)(a b:v8):L3 F a b=some (b8P a b):=by
 unfold L3
 rw [b3m,a8,b3m,a8,b8O];rfl
theorem b1b (x y:l3):a9j x y<0↔y7 x y=true:=by
 unfold a9j
 cases y7 x y
 ·cases x==y<;>simp
 ·simp
theorem a9z (x y:l3):a9j x y=0↔x=y:=by
 unfold a9j
 cases h:y7 x y
 ·cases h2:x==y
  ·have:=beq_eq_false_iff_ne.1 h2
   simp [this]
  ·have:=eq_of_beq h2
   simp [this]
 ·rw [if_pos rfl]
  refine⟨fun e=>by omega,fun e=>?_⟩
  subst e;rw [a2l] at h;cases h
theorem b7u (F:Nat)(a b:v8):ltO (fun a b=>L3 F a b) a b=ltE a b:=by
 show decide ((L3 F a b).getD 0<0)=_
 rw [b3I]
 show decide (b8P a b<0)=_
 rw [Bool.eq_iff_iff,decide_eq_true_iff,a2c]
 unfold b8P
 by_cases h:a9j a.Field b.Field=0
 ·rw [if_pos h,b1b]
  have e:=(a9z _ _).1 h
  rw [e,a2l];simp
 ·rw [if_neg h,b1b]
  have e:a.Field≠b.Field:=fun e=>h ((a9z _ _).2 e)
  simp [e]
def a3Z (B:Nat)(es:List v8):Prop:=es.length≤B∧∀e∈es,e.Posts.length≤B∧∀p∈e.Posts,p.At.length≤B
theorem a5N {B:Nat}{ps:List D1}{id a:Int}(h:ps.length≤B∧∀p∈ps,p.At.length≤B):(K5 ps id a).length≤B+1∧∀p∈K5 ps id a,p.At.length≤B+1:=by
 obtain⟨h1,h2⟩:=h
 cases hn:H3 ps id
 ·rcases List.eq_nil_or_concat ps with rfl | ⟨qs,p,rfl⟩
  ·simp [H3] at hn
  ·have e:K5 (qs.concat p) id a=qs++[D1.mk p.Doc (p.At++[a])]:=by
    unfold K5;rw [hn];simp
   rw [e]
   simp only [List.concat_eq_append,j8,l6] at h1 h2 ⊢
   refine⟨by omega,fun q hq=>?_⟩
   rcases List.mem_append.1 hq with hq | hq
   ·have:=h2 q (by simp [hq]);omega
   ·rw [List.mem_singleton] at hq;subst hq
    have:=h2 p (by simp)
    simp only [j8,l6];omega
 ·rw [a6Y hn]
  refine⟨by simp only [j8,l6];omega,fun q hq=>?_⟩
  rcases List.mem_append.1 hq with hq | hq
  ·have:=h2 q hq;omega
  ·rw [List.mem_singleton] at hq;subst hq;simp
theorem b6b {B:Nat}{o:Occ}: ∀{es:List v8},a3Z B es→a3Z (B+1) (a3i o es):=by
 intro es h
 have hl: ∀es:List v8,(a3i o es).length≤es.length+1:=by
  intro es
  induction es with
  | nil=>simp [a3i]
  | cons e r ih=>unfold a3i;split<;>simp only [l9]<;>omega
 refine⟨by have:=hl es;have:=h.1;omega,?_⟩
 have gen: ∀es:List v8,(∀e∈es,e.Posts.length≤B∧∀p∈e.Posts,p.At.length≤B)→∀e∈a3i o es,e.Posts.length≤B+1∧∀p∈e.Posts,p.At.length≤B+1:=by
  intro es
  induction es with
  | nil=>
   intro _ e he
   rw [a3i,List.mem_singleton] at he;subst he
   exact a5N (B:=B) (ps:=[]) ⟨Nat.zero_le _,fun p hp=>by cases hp⟩
  | cons x r ih=>
   intro hx e he
   unfold a3i at he
   split at he
   ·rcases List.mem_cons.1 he with rfl | he
    ·exact a5N (hx x (by simp))
    ·have:=hx e (by simp [he]);exact⟨by omega,fun p hp=>by have:=this.2 p hp;omega⟩
   ·rcases List.mem_cons.1 he with rfl | he
    ·have:=hx e (by simp);exact⟨by omega,fun p hp=>by have:=this.2 p hp;omega⟩
    ·exact ih (fun y hy=>hx y (by simp [hy])) e he
 exact gen es h.2
def a3E (n t:l3)(e:v8):Bool:=e.Field==n&&e.Term==t
theorem b3N (o:Occ): ∀es:List v8,a3i o es=match es.findIdx? (a3E o.1.1 o.1.2) with
  | none=>es++[⟨o.1.1,o.1.2,K5 [] o.2.1 o.2.2⟩]
  | some j=>(es[j]?).elim es fun e=>es.set j ⟨e.Field,e.Term,K5 e.Posts o.2.1 o.2.2⟩
 | []=>rfl
 | e::r=>by
  have ih:=b3N o r
  rw [a3i,List.findIdx?_cons]
  have hk:a3E o.1.1 o.1.2 e=(e.Field==o.1.1&&e.Term==o.1.2):=rfl
  rw [hk,M0,M0]
  cases (e.Field==o.1.1&&e.Term==o.1.2)
  ·simp only [i9]
   rw [ih]
   cases r.findIdx? (a3E o.1.1 o.1.2) with
   | none=>rfl
   | some j=>
    simp only [Option.map_some,List.getElem?_cons_succ]
    cases r[j]? <;>rfl
  ·rfl
theorem b2G (F:Nat)(es:List v8)(n:l3)(t:w8):C2 F es n t=some ((es.findIdx? (a3E n t.Text)).elim (-1:Int) fun j=>(j:Int)):=by
 unfold C2
 rw [b1s (a3E n t.Text) (fun i x hx=>?_)]
 ·cases es.findIdx? (a3E n t.Text)<;>rfl
 ·rw [l8,hx,a8]
  unfold a0b
  have:(cond (x.Field==n) (some (x.Term==t.Text)) (some false):Option Bool)=some (a3E n t.Text x):=by
   unfold a3E;cases x.Field==n<;>rfl
  rw [this,a8,M0]
  cases a3E n t.Text x<;>rfl
theorem b5V (F B:Nat)(docs:List u1)(es:List v8)(n:l3)(t:w8)(id:Int)(h:a3Z B es)(hB:B≤1000000):Y3 F ⟨docs,es⟩ n t id=some ⟨docs,a3i ((n,t.Text),(id,t.At)) es⟩:=by
 have h1:=h.1
 have hpost: ∀ps:List D1,(ps.length≤B∧∀p∈ps,p.At.length≤B)→∃p at_,(cond (H3 ps id) (J5 32 ps [D1.mk id []]) (some ps))=some (if H3 ps id then ps++[D1.mk id []] else ps)∧(if H3 ps id then ps++[D1.mk id []] else ps).getLast?=some p∧
   J5 8 p.At [t.At]=some at_∧K5 ps id t.At=(if H3 ps id then ps++[D1.mk id []] else ps).dropLast++[D1.mk p.Doc at_]:=fun ps ⟨g1,g2⟩=>by
  cases hn:H3 ps id
  ·rcases List.eq_nil_or_concat ps with rfl | ⟨qs,p,rfl⟩
   ·simp [H3] at hn
   ·have:=g2 p (by simp)
    refine⟨p,p.At++[t.At],rfl,by simp,F5 (by simp only [l6];omega),?_⟩
    unfold K5;rw [hn];simp
  ·refine⟨D1.mk id [],[t.At],?_,by simp,F5 (by simp),?_⟩
   ·rw [j6,F5 (by simp only [l6];omega)];rfl
   ·unfold K5;rw [hn];simp
 unfold Y3
 rw [b2G,a8,b3N]
 cases hf:es.findIdx? (a3E n t.Text) with
 | none=>
  obtain⟨p,at_,e1,e2,e3,e4⟩:=hpost [] ⟨by simp,by simp⟩
  rw [show (Option.elim (none:Option Nat) (-1:Int) fun j=>(j:Int))= -1 from rfl]
  rw [b8 (by decide),j6,j6]
  dsimp only
  rw [F5 (by simp only [l6];omega),a8,l8,List.getElem?_append_right (Nat.le_refl _),Nat.sub_self]
  simp only [List.getElem?_cons_zero,a8]
  rw [e1,a8,e2,a8,e3,a8,←e4]
  simp
 | some j=>
  have hj:=(List.findIdx?_eq_some_iff_getElem.1 hf).1
  have hfit:=h.2 es[j] (List.getElem_mem hj)
  obtain⟨p,at_,e1,e2,e3,e4⟩:=hpost es[j].Posts hfit
  rw [show (Option.elim (some j) (-1:Int) fun j=>(j:Int))=(j:Int) from rfl]
  rw [c6 (by omega),i9,i9]
  dsimp only
  rw [a8,l8,i6 hj,a8,e1,a8,e2,a8,e3,a8,←e4]
  rfl
end Go.Fk
set_option linter.unusedVariables false
namespace Go.Fk
open Go
theorem b08 {α:Type}{lt:α→α→Bool}(tr: ∀{a b c},lt a b=true→lt b c=true→lt a c=true): ∀l:List α,(∀i,(hi:i+1<l.length)→lt l[i] l[i+1]=true)→l.Pairwise fun a b=>lt a b=true
 | [],_=>List.Pairwise.nil
 | a::l,hl=>by
  have ih':=b08 (lt:=lt) tr l (fun i hi=>by have:=hl (i+1) (by simp only [l9];omega);simpa using this)
  refine List.pairwise_cons.2 ⟨fun c hc=>?_,ih'⟩
  cases l with
  | nil=>cases hc
  | cons b l=>
   have hab:lt a b=true:=hl 0 (by simp)
   rcases List.mem_cons.1 hc with rfl | hc
   ·exact hab
   ·exact tr hab ((List.pairwise_cons.1 ih').1 c hc)
theorem a2n {d:u1}(h:a1Q d=true):(a1c a2a a1F d.Fields=true∧a1c a3u a33 d.Nums=true)∧d.Fields.length≤3∧d.Nums.length≤3:=by
 unfold a1Q at h
 simp only [l5,decide_eq_true_iff] at h
 exact⟨h.1,by omega,by omega⟩
theorem a6n {s:l3}(h:O9 s=true):s.length≤160:=by
 unfold O9 at h
 simp only [l5,decide_eq_true_iff] at h
 omega
theorem a21 {d:u1}(h:a1Q d=true){f:I3}(hf:f∈d.Fields):A1 f.Name=true∧O9 f.Text=true:=by
 have:=(a2u (a2n h).1.1).1 f hf
 unfold a2a at this
 simpa using this
theorem b65 {d:u1}(h:a1Q d=true):a3Y d:=by
 obtain⟨⟨h1,h2⟩,h3,h4⟩:=a2n h
 refine⟨by omega,by omega,fun f hf=>?_,fun a ha=>?_⟩
 ·obtain⟨k1,k2⟩:=a21 h hf
  have:=a6n k2
  have:=a0o k1
  omega
 ·have:=(a2u h2).1 a ha
  unfold a3u at this
  simp only [l5] at this
  have:=a0o this.1
  omega
theorem b4j {d:u1}(h:a1Q d=true):d.Fields.Pairwise fun f g=>f.Name≠g.Name:=by
 have h1:=b08 (lt:=a1F) (fun {a b c} k1 k2=>a3n k1 k2) d.Fields (a2u (a2n h).1.1).2
 refine h1.imp fun {a b} k e=>?_
 unfold a1F at k
 rw [e,a2l] at k;cases k
theorem a1R {docs:List u1}(h:T3 docs=true):docs.length≤16∧∀d∈docs,a1Q d=true:=by
 unfold T3 at h
 rw [l5,decide_eq_true_iff] at h
 exact⟨by omega,(a2u h.1).1⟩
theorem b1g {docs:List u1}(h:T3 docs=true):X5 docs:=⟨by have:=(a1R h).1;omega,fun d hd=>b65 ((a1R h).2 d hd)⟩
theorem a9D {docs:List u1}(h:T3 docs=true):a7Z docs:=⟨(a1S h).2.2,fun d hd=>b4j ((a1R h).2 d hd)⟩
theorem a23 {α σ:Type}{xs:List α}{g:σ→α→σ}{I:Nat→σ→Prop}{f:Nat→σ→Option σ}(h: ∀i x s,xs[i]? =some x→I i s→f i s=some (g s x)∧I (i+1) (g s x)): ∀k i s,i+k=xs.length→I i s→O6 f k i s=some ((xs.drop i).foldl g s)
 | 0,i,s,e,_=>by rw [O6,List.drop_of_length_le (by omega)];rfl
 | k+1,i,s,e,hI=>by
  have hi:i<xs.length:=by omega
  obtain⟨h1,h2⟩:=h i xs[i] s (i6 hi) hI
  rw [O6,h1,List.drop_eq_getElem_cons hi,a8,List.foldl_cons]
  exact a23 h k (i+1) _ (by omega) h2
theorem a2Q {α σ:Type}{xs:List α}(g:σ→α→σ)(I:Nat→σ→Prop){f:Nat→σ→Option σ}(s:σ)(hI:I 0 s)(h: ∀i x s,xs[i]? =some x→I i s→f i s=some (g s x)∧I (i+1) (g s x)):O6 f xs.length 0 s=some (xs.foldl g s):=by
 have:=a23 h xs.length 0 s (by omega) hI
 rwa [List.drop_zero] at this
def a2v (es:List v8)(os:List Occ):List v8:=os.foldl (fun es o=>a3i o es) es
theorem a0S {B:Nat}: ∀(os:List Occ) {es:List v8},a3Z B es→a3Z (B+os.length) (a2v es os)
 | [],es,h=>h
 | o::os,es,h=>by
  have:=a0S os (b6b (o:=o) h)
  rw [l9,show B+(os.length+1)=B+1+os.length by omega]
  exact this
theorem a3Z.le {B B':Nat}{es:List v8}(h:a3Z B es)(hle:B≤B'):a3Z B' es:=
 ⟨Nat.le_trans h.1 hle,fun e he=>⟨Nat.le_trans (h.2 e he).1 hle,fun p hp=>Nat.le_trans ((h.2 e he).2 p hp) hle⟩⟩
theorem a2K {α:Type}(h:α→List Occ)(docs:List u1): ∀(l:List α) (es:List v8),l.foldl (fun s x=>A2.mk s.Docs (a2v s.Entries (h x))) (A2.mk docs es)=A2.mk docs (a2v es (l.flatMap h))
 | [],es=>rfl
 | x::l,es=>by
  rw [List.foldl_cons,a2K h docs l,List.flatMap_cons]
  unfold a2v
  rw [List.foldl_append]
theorem b1u (F:Nat)(docs:List u1)(h:X5 docs):R9 F docs=some docs:=by
 have hfew:=h.few
 unfold R9
 rw [a4K (fun d:u1=>[d]) 1000 (fun i d acc hx hB=>?_) [] (by simp;omega)]
 ·simp
 ·have hdd:=h.doc d (m8 hx)
  have h1:=hdd.fields
  have h2:=hdd.nums
  rw [l8,hx,a8,a8m F d (by omega) (by omega),a8,F5 (by simp at hB ⊢;omega)];rfl
theorem b3G {c:o0}{id:Int}{f:I3}(h:O9 f.Text=true):(a0D c id f).length≤160:=by
 have:=W6 c f.Text
 have:=a6n h
 unfold a0D
 rw [List.length_map];omega
theorem a5n {c:o0}{d:u1}(h:a1Q d=true):(a3y c d).length≤480:=by
 have h1:=U0 (g:=a0D c d.Id) (m:=160) d.Fields fun f hf=>b3G (a21 h hf).2
 have h2:=(a2n h).2.1
 have:d.Fields.length*160≤480:=by omega
 unfold a3y;omega
def b6n (c:o0)(docs:List u1):A2:=if I4 c&&T3 docs then X4 c docs else ⟨[],[]⟩
theorem b2K (F:Nat)(c:o0)(docs:List u1)(hd:docs.length<9000000000000000000)(hc:c.Stops.length≤2000000)(hF:1000<F):a0Y F c docs=some (b6n c docs):=by
 unfold a0Y b6n
 rw [a4N F c hc (by omega),a8]
 cases hcs:I4 c
 ·rfl
 rw [n5,i9,a9K F docs hd,a8,a8,n8]
 cases hds:T3 docs
 ·rfl
 have hall:=a1R hds
 rw [n5,i9,if_pos rfl,b1u F docs (b1g hds),a8]
 rw [a2Q (xs:=docs) (fun s d=>A2.mk s.Docs (a2v s.Entries (a3y c d))) (fun i s=>s.Docs=docs∧a3Z (i*480) s.Entries) ⟨docs,[]⟩ ⟨rfl,by simp [a3Z]⟩ (fun i d s hx ⟨e,hs⟩=>?_)]
 ·rw [a2K,a8,a8]
  have hocc:docs.flatMap (a3y c)=a1Y c docs:=rfl
  have hfin:a3Z 7680 (a2v [] (a1Y c docs)):=by
   have hl:=U0 (g:=a3y c) (m:=480) docs fun d hd=>a5n (hall.2 d hd)
   have hl2:=hall.1
   have:=a0S (B:=0) (a1Y c docs) (es:=[]) (by simp [a3Z])
   exact this.le (by unfold a1Y;omega)
  rw [hocc]
  have hput:a2v [] (a1Y c docs)=(O7 (a1Y c docs)).map (mkE (a1Y c docs)):=b1K _
  rw [b6v (t:=(X4 c docs).Entries) (b7u F) (fun a b=>by rw [b3I];rfl) b0A b8M b8K (by rw [hput];exact a8u _) (a7b c docs) (fun x=>by rw [hput];exact b1G (a9D hds) x) (by have:=hfin.1;show (a2v [] (a1Y c docs)).length≤_;omega),a8]
  rfl
 ·have hdi:=hall.2 d (m8 hx)
  have hi:=(g8.1 hx).1
  have h16:=hall.1
  have h3:=(a2n hdi).2.1
  have hol:=a5n (c:=c) hdi
  refine⟨?_,e,(a0S _ hs).le (by omega)⟩
  obtain⟨sd,se⟩:=s
  dsimp only at e hs ⊢
  subst e
  rw [l8,hx,a8]
  rw [a2Q (xs:=d.Fields) (fun s f=>A2.mk s.Docs (a2v s.Entries (a0D c d.Id f))) (fun j s=>s.Docs=sd∧a3Z (i*480+j*160) s.Entries) ⟨sd,se⟩ (by rw [Nat.zero_mul,Nat.add_zero];exact⟨rfl,hs⟩) (fun j f s hf ⟨e,hs⟩=>?_)]
  ·rw [a2K,a8,a8];rfl
  ·have hft:=(a21 hdi (m8 hf)).2
   have htl:=a6n hft
   have hj:=(g8.1 hf).1
   have hfl:=b3G (c:=c) (id:=d.Id) hft
   refine⟨?_,e,(a0S _ hs).le (by omega)⟩
   obtain⟨sd',se'⟩:=s
   dsimp only at e hs ⊢
   subst e
   rw [l8,hf,a8,a2o F c f.Text (by omega) (by omega) (by omega),hcs,hft,n8,if_pos rfl,a8]
   have htm:=W6 c f.Text
   rw [a2Q (xs:=u2 c f.Text) (fun s x=>A2.mk s.Docs (a2v s.Entries [((f.Name,x.Text),(d.Id,x.At))])) (fun k s=>s.Docs=sd'∧a3Z (i*480+j*160+k) s.Entries) ⟨sd',se'⟩ (by rw [Nat.add_zero];exact⟨rfl,hs⟩) (fun k x s hxk ⟨e,hs⟩=>?_)]
   ·rw [a2K (fun x:w8=>[((f.Name,x.Text),(d.Id,x.At))]),a8,a8]
    congr 2
    unfold a0D
    rw [List.map_eq_flatMap]
   ·have hk:=(g8.1 hxk).1
    refine⟨?_,e,by have h1:=a0S [((f.Name,x.Text),(d.Id,x.At))] hs;rw [l6,Nat.add_assoc] at h1;exact h1⟩
    obtain⟨sd'',se''⟩:=s
    dsimp only at e hs ⊢
    subst e
    rw [l8,hxk,a8,b5V F _ sd'' se'' f.Name x d.Id hs (by omega),a8]
    rfl
end Go.Fk
set_option linter.unusedVariables false
namespace Go.Fk
open Go
def eqL {α:Type}(q:α→α→Bool)(xs ys:List α):Bool:=decide ((xs.length:Int)=ys.length)&&(xs.zip ys).all fun p=>q p.1 p.2
theorem a7J {α:Type}{q:α→α→Bool}(h: ∀a b,q a b=true↔a=b): ∀xs ys:List α,eqL q xs ys=true↔xs=ys
 | [],[]=>by simp [eqL]
 | [],y::ys=>by simp [eqL];omega
 | x::xs,[]=>by simp [eqL];omega
 | x::xs,y::ys=>by
  have ih:=a7J h xs ys
  unfold eqL at ih ⊢
  rw [l5,decide_eq_true_iff] at ih ⊢
  rw [List.zip_cons_cons,List.all_cons,l5,h,List.cons.injEq,←ih]
  simp only [l9]
  constructor
  ·rintro⟨h1,h2,h3⟩;exact⟨h2,by omega,h3⟩
  ·rintro⟨h1,h2,h3⟩;exact⟨by omega,h1,h3⟩
theorem b06 {α:Type}{xs ys:List α}{i:Nat}{p:α×α}(h:(xs.zip ys)[i]? =some p):xs[i]? =some p.1∧ys[i]? =some p.2:=by
 have:=List.getElem?_zip_eq_some.1 h
 exact this
theorem b0k {α:Type}(q:α→α→Bool){xs ys:List α}{f:Nat→Unit→Option (Unit⊕Bool)}(h: ∀i a b,xs[i]? =some a→ys[i]? =some b→f i ()=some (if q a b then .inl () else .inr false)):
  (cond (!((xs.length:Int)==(ys.length:Int))) (some false) (Option.bind ((Option.bind (y6 f xs.length 0 ()) fun r=>r.elim (fun _=>some (.inl ())) (fun t=>some (.inr t))):Option (Unit⊕Bool)) fun o=>o.elim (fun _=>some true) fun t=>some t))=some (eqL q xs ys):=by
 by_cases e:(xs.length:Int)=ys.length
 ·have hz:(xs.zip ys).length=xs.length:=by rw [List.length_zip];omega
  have:=Q4 (p:=fun p:α×α=>q p.1 p.2) (xs:=xs.zip ys) (f:=f) (fun i p hp=>h i p.1 p.2 (b06 hp).1 (b06 hp).2)
  have:=this xs.length 0 (by omega)
  rw [List.drop_zero] at this
  rw [this,beq_iff_eq.2 e]
  unfold eqL
  rw [b8 e,n8]
  cases (xs.zip ys).all fun p=>q p.1 p.2<;>rfl
 ·rw [beq_eq_false_iff_ne.2 e]
  unfold eqL
  rw [c6 e];rfl
theorem a6w {α:Type}(q:α→α→Bool){xs ys:List α}{f:Int→Option (Int⊕(Unit⊕Bool))}(F:Nat)(hF:xs.length<F)(h: ∀(i:Nat) a b,i<xs.length→xs[i]? =some a→ys[i]? =some b→f (i:Int)=some (if q a b then .inl ((i+1:Nat):Int) else .inr (.inr false)))(h0:f (xs.length:Int)=some (.inr (.inl ()))):
  (cond (!((xs.length:Int)==(ys.length:Int))) (some false) (Option.bind ((Option.bind (u0 f F (0:Int)) fun r=>r.elim (fun _=>some (.inl ())) (fun t=>some (.inr t))):Option (Unit⊕Bool)) fun o=>o.elim (fun _=>some true) fun t=>some t))=some (eqL q xs ys):=by
 by_cases e:(xs.length:Int)=ys.length
 ·have hz:(xs.zip ys).length=xs.length:=by rw [List.length_zip];omega
  have:=a3s (fun p:α×α=>q p.1 p.2) (xs:=xs.zip ys) (f:=f) F (by omega) (fun i p hp=>h i p.1 p.2 (by have:=(g8.1 hp).1;omega) (b06 hp).1 (b06 hp).2) (by rw [hz];exact h0)
  rw [this,beq_iff_eq.2 e]
  unfold eqL
  rw [b8 e,n8]
  cases (xs.zip ys).all fun p=>q p.1 p.2<;>rfl
 ·rw [beq_eq_false_iff_ne.2 e]
  unfold eqL
  rw [c6 e];rfl
def eqI (a b:Int):Bool:=a==b
def eqP (a b:D1):Bool:=a.Doc==b.Doc&&eqL eqI a.At b.At
def eqE (a b:v8):Bool:=a.Field==b.Field&&(a.Term==b.Term&&eqL eqP a.Posts b.Posts)
theorem b68 (a b:Int):eqI a b=true↔a=b:=by simp [eqI]
theorem b69 (a b:D1):eqP a b=true↔a=b:=by
 unfold eqP
 rw [l5,a7J b68]
 cases a;cases b;simp
theorem b67 (a b:v8):eqE a b=true↔a=b:=by
 unfold eqE
 rw [l5,l5,a7J b69]
 cases a;cases b;simp
theorem b4x (F:Nat)(a b:List Int):O2 F a b=some (eqL eqI a b):=by
 unfold O2
 refine b0k eqI fun i x y hx hy=>?_
 rw [l8,hx,a8,l8,hy,a8,M0]
 unfold eqI
 cases x==y<;>rfl
theorem b4B (F:Nat)(a b:D1):V4 F a b=some (eqP a b):=by
 unfold V4 eqP
 rw [b4x]
 cases a.Doc==b.Doc<;>rfl
theorem b2J (F:Nat)(a b:List D1):C6 F a b=some (eqL eqP a b):=by
 unfold C6
 refine b0k eqP fun i x y hx hy=>?_
 rw [l8,hx,a8,l8,hy,a8,b4B,a8,M0]
 cases eqP x y<;>rfl
theorem b2F (F:Nat)(a b:v8):S2 F a b=some (eqE a b):=by
 unfold S2 eqE
 rw [b2J]
 cases a.Field==b.Field
 ·rfl
 ·cases a.Term==b.Term<;>rfl
theorem b0u (F:Nat)(a b:List v8):C1 F a b=some (eqL eqE a b):=by
 unfold C1
 refine b0k eqE fun i x y hx hy=>?_
 rw [l8,hx,a8,l8,hy,a8,b2F,a8,M0]
 cases eqE x y<;>rfl
theorem b44 (F:Nat)(a b:List Int)(hF:a.length<F)(hl:a.length<9000000000000000000):L8 F a b=some (eqL eqI a b):=by
 unfold L8
 refine a6w eqI F hF (fun i x y hi hx hy=>?_) ?_
 ·rw [b8 (by omega),j6,l8,hx,a8,l8,hy,a8,u4 (by omega),M0]
  unfold eqI
  cases x==y<;>rfl
 ·rw [c6 (by omega)];rfl
theorem b26 (F:Nat)(a b:v8)(h:a.Posts.length≤10000∧∀p∈a.Posts,p.At.length≤10000)(hF:10000<F):O5 F a b=some (eqE a b):=by
 unfold O5 eqE
 have key:=a6w eqP (xs:=a.Posts) (ys:=b.Posts) F (by omega) (f:=fun (s46:Int)=>(cond (decide (s46<(a.Posts.length:Int))) (Option.bind ((Option.bind (p8 a.Posts s46) fun x67=>(Option.bind (p8 b.Posts s46) fun x81=>(cond (!(x67.Doc==x81.Doc)) (some true) (Option.bind (p8 a.Posts s46) fun x101=>(Option.bind (p8 b.Posts s46) fun x115=>(Option.bind (L8 F x101.At x115.At) fun r129=>(some (!r129)))))))):Option Bool) fun o60=>(cond o60 (some (.inr (.inr false))) (some (.inl (y8 (s46+(1:Int))))))) (some (.inr (.inl ()))))) (fun i x y hi hx hy=>?_) ?_
 ·cases hf:a.Field==b.Field
  ·rfl
  cases ht:a.Term==b.Term
  ·rfl
  rw [n8,n8,←key]
  simp only [n5,i9]
  rfl
 ·have hp:=h.2 x (m8 hx)
  rw [b8 (by omega),j6,l8,hx,a8,l8,hy,a8,u4 (by omega),a8,a8,b44 F _ _ (by omega) (by omega),a8,M0]
  unfold eqP
  cases x.Doc==y.Doc
  ·rfl
  ·cases eqL eqI x.At y.At<;>rfl
 ·rw [c6 (by omega)];rfl
theorem b1V {c:o0}{docs:List u1}(h:T3 docs=true):a3Z 7680 (X4 c docs).Entries:=by
 have hall:=a1R h
 have hput:a2v [] (a1Y c docs)=(O7 (a1Y c docs)).map (mkE (a1Y c docs)):=b1K _
 have hfin:a3Z 7680 ((O7 (a1Y c docs)).map (mkE (a1Y c docs))):=by
  have hl:=U0 (g:=a3y c) (m:=480) docs fun d hd=>a5n (hall.2 d hd)
  have hl2:=hall.1
  have:=a0S (B:=0) (a1Y c docs) (es:=[]) (by simp [a3Z])
  rw [hput] at this
  exact this.le (by unfold a1Y;omega)
 have hm:=b1G (c:=c) (a9D h)
 have n1:(X4 c docs).Entries.Nodup:=(a7b c docs).imp fun {a b} k e=>by subst e;rw [b0A] at k;cases k
 have n2:((O7 (a1Y c docs)).map (mkE (a1Y c docs))).Nodup:=(a8u (a1Y c docs)).imp fun {a b} k e=>by subst e;rw [b0A] at k;rcases k with k | k<;>cases k
 have hp:=(List.perm_ext_iff_of_nodup n1 n2).2 hm
 exact⟨by rw [hp.length_eq];exact hfin.1,fun e he=>hfin.2 e ((hm e).1 he)⟩
def P5 (c:o0)(s:A2):Bool:=I4 c&&T3 s.Docs&&eqL eqE (X4 c s.Docs).Entries s.Entries
theorem b0v (F:Nat)(c:o0)(s:A2)(hd:s.Docs.length<9000000000000000000)(hc:c.Stops.length≤2000000)(hF:1000<F):T6 F c s=some (P5 c s):=by
 unfold T6 P5
 rw [a4N F c hc (by omega),a8,b2K F c s.Docs hd hc hF]
 unfold b6n
 cases hcs:I4 c
 ·rfl
 rw [n5,i9,a9K F s.Docs hd,a8,a8,n8]
 cases hds:T3 s.Docs
 ·rfl
 rw [n5,i9,if_pos rfl,a8,b0u];rfl
theorem b6y (F B:Nat)(c:o0)(s:A2)(hdl:s.Docs.length≤B)(hdb: ∀d∈s.Docs,b2v B d)(hc:a2D B c)(hB:B≤2000000)(hF:B+200000<F):a0R F c s=some (P5 c s):=by
 unfold a0R P5
 rw [a94 F B c hc hB (by omega),a8]
 cases hcs:I4 c
 ·rfl
 rw [n5,i9,b23 F B s.Docs hdl hdb hB (by omega),a8,a8,n8]
 cases hds:T3 s.Docs
 ·rfl
 have hfit:=b1V (c:=c) hds
 rw [n5,i9,b19 F c s.Docs hcs (b1g hds) (by omega),a8,n8]
 have hl:=hfit.1
 refine a6w eqE F (by omega) (fun i x y hi hx hy=>?_) ?_
 ·have hp:=hfit.2 x (m8 hx)
  rw [b8 (by omega),j6,l8,hx,a8,l8,hy,a8,u4 (by omega),b26 F x y ⟨by omega,fun p hpp=>by have:=hp.2 p hpp;omega⟩ (by omega),a8,M0]
  cases eqE x y<;>rfl
 ·rw [c6 (by omega)];rfl
theorem b7L (F B:Nat)(c:o0)(s:A2)(hd:X5 s.Docs)(hc:a2D B c)(hB:B≤1000000)(hF:B+202000<F):a0R F c s=some (P5 c s):=
 b6y F (B+1000) c s (by have:=hd.few;omega) (fun d hm=>by
  have h:=hd.doc d hm
  exact⟨by have:=h.fields;omega,by have:=h.nums;omega,fun f hf=>by have:=h.field f hf;omega,fun a ha=>by have:=h.num a ha;omega⟩)
  ⟨⟨by have:=hc.stops.1;omega,fun x hx=>by have:=hc.stops.2 x hx;omega⟩,by have:=hc.syns.1;omega,fun r hr=>by
   have:=hc.syns.2 r hr
   exact⟨by omega,by omega,fun x hx=>by have:=this.2.2 x hx;omega⟩⟩ (by omega) (by omega)
theorem a3K {c:o0}{s:A2}(h:P5 c s=true):I4 c=true∧T3 s.Docs=true∧s=X4 c s.Docs:=by
 unfold P5 at h
 rw [l5,l5,a7J b67] at h
 refine⟨h.1.1,h.1.2,?_⟩
 have:s.Entries=(X4 c s.Docs).Entries:=h.2.symm
 cases s
 simp only at this
 subst this
 rfl
end Go.Fk
