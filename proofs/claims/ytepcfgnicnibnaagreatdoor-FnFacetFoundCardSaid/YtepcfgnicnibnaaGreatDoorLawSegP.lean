import Derived.Test.YtepcfgnicnibnaaGreatDoorLawDrs
/-
  A document's field. Of no program.
-/
set_option linter.unusedVariables false
namespace Go.Fk
open Go
theorem a8L (F:Nat)(d:y5)(n:q9):U4 F d n=some (if a3h d then H5 d n else []):=by
 unfold U4 H5
 rw [a9I,a8]
 cases a3h d
 ·rfl
 rw [i9,if_pos rfl,a2v (xs:=d.Fields) (fun f=>f.Name==n) (fun f=>f.Text) (fun i x hx=>?_)]
 ·cases d.Fields.find? fun f=>f.Name==n<;>rfl
 ·rw [n5,hx,a8,R2]
  cases x.Name==n<;>rfl
theorem a6K {d:y5}(h:a3h d=true)(n:q9):a2o (H5 d n)=true:=by
 unfold H5
 cases hf:d.Fields.find? fun f=>f.Name==n with
 | none=>rfl
 | some f=>exact(a8j h (List.mem_of_find?_eq_some hf)).2
end Go.Fk
set_option linter.unusedVariables false
namespace Go.Fk
open Go
theorem b6M (F:Nat)(s:A7)(id:Int):a3B F s id=some ((s.Docs.find? fun d=>d.Id==id).elim (y5.mk 0 [] [],false) fun d=>(d,true)):=by
 unfold a3B
 rw [a2v (xs:=s.Docs) (fun d=>d.Id==id) (fun d=>(d,true)) (fun i x hx=>?_)]
 ·cases s.Docs.find? fun d=>d.Id==id<;>rfl
 ·rw [n5,hx,a8,R2]
  cases x.Id==id<;>rfl
def R9 (c:u5)(docs:List y5)(n:q9)(id:Int):Nat:=(docs.find? fun d=>d.Id==id).elim 0 fun d=>(G3 c (H5 d n)).length
theorem b1N (F:Nat){c:u5}{d:y5}(hc:X2 c=true)(hd:a3h d=true)(n:q9)(hF:2000<F):(Option.bind (U4 F d n) fun r=>O1 F c r)=some (G3 c (H5 d n)):=by
 have h1:=a6I hc
 have h2:=a6K hd n
 have h3:=b0g h2
 rw [a8L,hd,if_pos rfl,a8,a6L F c _ (by omega) (by omega) (by omega),hc,h2];rfl
def a8S (id:Int)(p:G7):Nat:=if p.Doc==id then p.At.length else 0
def a2j (n:q9)(id:Int)(e:B1):Nat:=if e.Field==n then (e.Posts.map (a8S id)).sum else 0
theorem a6q {α:Type}(w:α→Nat): ∀(l:List α) (a:Nat),l.foldl (fun a x=>a+w x) a=a+(l.map w).sum
 | [],a=>by simp
 | x::l,a=>by rw [List.foldl_cons,a6q w l,List.map_cons,List.sum_cons];omega
theorem b60 {B:Nat}{id:Int}{p:G7}(h:p.At.length≤B):a8S id p≤B:=by unfold a8S;split<;>omega
theorem b02 {α:Type}{w:α→Nat}{B:Nat}: ∀l:List α,(∀x∈l,w x≤B)→(l.map w).sum≤l.length*B
 | [],_=>by simp
 | x::l,h=>by
  have h1:=h x (by simp)
  have h2:=b02 l fun y hy=>h y (by simp [hy])
  rw [List.map_cons,List.sum_cons,r4,Nat.add_mul];omega
theorem b96 {n:q9}{id:Int}{e:B1}(h:e.Posts.length≤10000∧∀p∈e.Posts,p.At.length≤10000):a2j n id e≤100000000:=by
 have:=b02 (w:=a8S id) (B:=10000) e.Posts fun p hp=>b60 (h.2 p hp)
 have h1:=h.1
 unfold a2j
 split<;>omega
theorem c0P (F:Nat)(s:A7)(n:q9)(id:Int)(h:a5T 10000 s.Entries)(hF:20000<F):a2U F s n id=some (((s.Entries.map (a2j n id)).sum:Nat):Int):=by
 have hl:=h.1
 unfold a2U
 rw [(U5 (xs:=s.Entries) (fun a e=>a+a2j n id e) (fun i (a:Nat)=>a≤i*100000000) (fun a=>(a:Int)) (fun a i=>((a:Int),i)) (s0:=((0:Int),(0:Int))) 0 rfl F (by omega) (by simp) (fun i e a hx ha=>?_) (fun a ha=>?_)).1,a6q]
 ·rw [Nat.zero_add];rfl
 ·have hi:=(i4.1 hx).1
  have hp:=h.2 e (l7 hx)
  have hw:=b96 (n:=n) (id:=id) hp
  have hp1:=hp.1
  refine⟨?_,by omega⟩
  simp only
  rw [b8 (by omega),i9]
  cases hfn:e.Field==n
  ·have e0:a2j n id e=0:=by unfold a2j;rw [hfn];rfl
   obtain⟨G,rfl⟩: ∃G,F=G+1:=⟨F-1,by omega⟩
   rw [v8]
   simp only
   rw [n5,hx]
   simp only [a8,hfn]
   have hz:(bif decide ((0:Int)<(e.Posts.length:Int)) then some false else some false)=some false:=by cases decide ((0:Int)<(e.Posts.length:Int))<;>rfl
   rw [hz]
   simp only [a8,i6,Sum.elim_inr]
   rw [y2 (by omega),e0];rfl
  ·rw [(U5 (xs:=e.Posts) (fun a p=>a+a8S id p) (fun j (b:Nat)=>b≤i*100000000+j*10000) (fun a=>(a:Int)) (fun a i=>((a:Int),i)) (s0:=((a:Int),(0:Int))) a rfl F (by omega) (by rw [Nat.zero_mul,Nat.add_zero];exact ha) (fun j p b hxj hb=>?_) (fun b hb=>?_)).1,a6q]
   ·rw [a8,a8,y2 (by omega)]
    have:a2j n id e=(e.Posts.map (a8S id)).sum:=by unfold a2j;rw [hfn];rfl
    rw [this]
   ·have hj:=(i4.1 hxj).1
    have hpw:=b60 (id:=id) (hp.2 p (l7 hxj))
    have hpa:=hp.2 p (l7 hxj)
    refine⟨?_,by omega⟩
    simp only
    rw [n5,hx]
    simp only [a8,hfn]
    rw [b8 (by omega),i9,a8,i9,n5,hxj,a8,a8,y2 (by omega)]
    unfold a8S
    rw [R2]
    cases p.Doc==id
    ·rfl
    ·rw [i9,i9,show (b:Int)+(p.At.length:Int)=((b+p.At.length:Nat):Int) by omega,b2J (by omega)]
   ·simp only
    rw [n5,hx]
    simp only [a8]
    rw [c6 (by omega)];rfl
 ·simp only
  rw [c6 (by omega)];rfl
theorem b0e {α:Type}[DecidableEq α]{w:α→Nat}{a:α}: ∀l:List α,l.Nodup→(∀x∈l,x≠a→w x=0)→(l.map w).sum=if a∈l then w a else 0
 | [],_,_=>by simp
 | x::l,hn,h=>by
  have hc:=List.nodup_cons.1 hn
  have ih:=b0e l hc.2 fun y hy=>h y (by simp [hy])
  rw [List.map_cons,List.sum_cons,ih]
  by_cases e:x=a
  ·subst e
   rw [if_neg hc.1,if_pos (by simp)];rfl
  ·rw [h x (by simp) e,Nat.zero_add]
   have:(a∈x::l)↔a∈l:=by rw [List.mem_cons];exact⟨fun q=>q.resolve_left fun k=>e k.symm,.inr⟩
   simp only [this]
theorem b53 {α:Type}(v w:α→Nat): ∀l:List α,(l.map fun x=>v x+w x).sum=(l.map v).sum+(l.map w).sum
 | []=>rfl
 | x::l=>by simp only [List.map_cons,List.sum_cons,b53 v w l];omega
theorem b0c {α β:Type}(f:α→List β)(w:β→Nat): ∀l:List α,((l.flatMap f).map w).sum=(l.map fun x=>((f x).map w).sum).sum
 | []=>rfl
 | x::l=>by rw [List.flatMap_cons,List.map_append,List.sum_append,b0c f w l];rfl
theorem a5E {α:Type}: ∀l:List α,(l.map fun _=>0).sum=0
 | []=>rfl
 | x::l=>by rw [List.map_cons,List.sum_cons,a5E l]
theorem b0o {T:List q9}(hT:T.Nodup): ∀l:List C8,(∀x∈l,x.Text∈T)→(T.map fun t=>(l.flatMap fun x=>if x.Text==t then [x.At] else []).length).sum=l.length
 | [],_=>by
  exact a5E T
 | x::l,h=>by
  have ih:=b0o hT l fun y hy=>h y (by simp [hy])
  have:(fun t=>((x::l).flatMap fun x=>if x.Text==t then [x.At] else []).length)=fun t=>(if x.Text==t then 1 else 0)+(l.flatMap fun x=>if x.Text==t then [x.At] else []).length:=by
   funext t
   rw [List.flatMap_cons,n9,R2,R2]
   cases x.Text==t<;>rfl
  rw [this,b53,ih,b0e (a:=x.Text) T hT (fun t _ ht=>by rw [beq_eq_false_iff_ne.2 fun e=>ht e.symm];rfl),if_pos (h x (by simp)),beq_self_eq_true,r4]
  simp;omega
theorem c3s {docs:List y5}{d:y5}{id:Int}(h: ∀e∈docs,d.Id<e.Id)(hd:d.Id=id):docs.find? (fun e=>e.Id==id)=none:=
 List.find?_eq_none.2 fun e he k=>by have:=h e he;have:=eq_of_beq k;omega
theorem b4W (c:u5)(n t:q9)(id:Int): ∀docs:List y5,(docs.Pairwise fun a b=>a.Id<b.Id)→((docs.flatMap (R1 c n t)).map (a8S id)).sum=(docs.find? fun d=>d.Id==id).elim 0 fun d=>(a1A c d n t).length
 | [],_=>rfl
 | d::r,hd=>by
  have hc:=List.pairwise_cons.1 hd
  have ih:=b4W c n t id r hc.2
  rw [List.flatMap_cons,List.map_append,List.sum_append,ih,List.find?_cons]
  have hone:((R1 c n t d).map (a8S id)).sum=if d.Id==id then (a1A c d n t).length else 0:=by
   unfold R1
   by_cases h0:0<(a1A c d n t).length
   ·rw [b8 h0,if_pos rfl];simp [a8S]
   ·rw [c6 h0,if_neg (by simp)]
    have:(a1A c d n t).length=0:=by omega
    rw [this];simp
  rw [hone]
  cases hid:d.Id==id
  ·rw [if_neg (by simp),Nat.zero_add]
  ·rw [if_pos rfl,c3s hc.1 (eq_of_beq hid)];rfl
theorem c13 {c:u5}{docs:List y5}(hg:a9l docs)(n:q9)(id:Int):((a1L c docs).Entries.map (a2j n id)).sum=R9 c docs n id:=by
 have hnn:(a0b docs).Nodup:=(show List.Pairwise (fun a b=>C4 a b=true) (a0b docs) from a6N docs).imp fun {a b} k e=>by subst e;rw [a1G] at k;cases k
 have htn:(L5 c docs n).Nodup:=(show List.Pairwise (fun a b=>C4 a b=true) (L5 c docs n) from a51 c docs n).imp fun {a b} k e=>by subst e;rw [a1G] at k;cases k
 show (((a0b docs).flatMap fun n=>(L5 c docs n).map (M4 c docs n)).map (a2j n id)).sum=_
 rw [b0c,b0e (a:=n) _ hnn (fun m _ hm=>?_)]
 ·have hin:((L5 c docs n).map (M4 c docs n)).map (a2j n id)=(L5 c docs n).map fun t=>(docs.find? fun d=>d.Id==id).elim 0 fun d=>(a1A c d n t).length:=by
   rw [List.map_map]
   refine List.map_congr_left fun t _=>?_
   show a2j n id (M4 c docs n t)=_
   unfold a2j M4
   simp only [beq_self_eq_true,if_true]
   exact b4W c n t id docs hg.ids
  rw [hin]
  unfold R9
  cases hf:docs.find? fun d=>d.Id==id with
  | none=>
   simp only [Option.elim_none]
   split
   ·exact a5E _
   ·rfl
  | some d=>
   have hdm:=List.mem_of_find?_eq_some hf
   simp only [Option.elim_some]
   by_cases hm:n∈a0b docs
   ·rw [if_pos hm]
    exact b0o htn _ fun x hx=>a38.2 ⟨d,hdm,x,hx,rfl⟩
   ·rw [if_neg hm]
    have:H5 d n=[]:=by
     unfold H5
     cases hff:d.Fields.find? fun f=>f.Name==n with
     | none=>rfl
     | some f=>exact absurd (a8q.2 ⟨d,hdm,f,List.mem_of_find?_eq_some hff,eq_of_beq (List.find?_some (p:=fun f:O0=>f.Name==n) hff)⟩) hm
    rw [this,a5b];rfl
 ·have:((L5 c docs m).map (M4 c docs m)).map (a2j n id)=(L5 c docs m).map fun _=>0:=by
   rw [List.map_map]
   refine List.map_congr_left fun t _=>?_
   show a2j n id (M4 c docs m t)=0
   unfold a2j
   have:((M4 c docs m t).Field==n)=false:=beq_eq_false_iff_ne.2 hm
   rw [this];rfl
  rw [this]
  exact a5E _
end Go.Fk
set_option linter.unusedVariables false
namespace Go.Fk
open Go
theorem b6x {c:u5}{docs:List y5}{e:B1}(he:e∈(a1L c docs).Entries):0<e.Posts.length:=by
 unfold a1L at he
 obtain⟨n,_,hm⟩:=List.mem_flatMap.1 he
 obtain⟨t,ht,rfl⟩:=List.mem_map.1 hm
 obtain⟨d,hd,x,hx,rfl⟩:=a38.1 ht
 have hmem:x.At∈a1A c d n x.Text:=List.mem_flatMap.2 ⟨x,hx,by simp⟩
 have hpos:0<(a1A c d n x.Text).length:=List.length_pos_of_mem hmem
 have:(⟨d.Id,a1A c d n x.Text⟩:G7)∈(M4 c docs n x.Text).Posts:=List.mem_flatMap.2 ⟨d,hd,by unfold R1;rw [b8 hpos,if_pos rfl];simp⟩
 exact List.length_pos_of_mem this
theorem c1M {c:u5}{docs:List y5}{n t:q9}:M4 c docs n t∈(a1L c docs).Entries↔n∈a0b docs∧t∈L5 c docs n:=by
 unfold a1L
 constructor
 ·intro h
  obtain⟨m,hm,h⟩:=List.mem_flatMap.1 h
  obtain⟨u,hu,e⟩:=List.mem_map.1 h
  have e1:m=n:=congrArg B1.Field e
  have e2:u=t:=congrArg B1.Term e
  subst e1;subst e2
  exact⟨hm,hu⟩
 ·rintro⟨h1,h2⟩
  exact List.mem_flatMap.2 ⟨n,h1,List.mem_map.2 ⟨t,h2,rfl⟩⟩
theorem b9j {c:u5}{docs:List y5}{e:B1}(h:e∈(a1L c docs).Entries):e=M4 c docs e.Field e.Term:=by
 unfold a1L at h
 obtain⟨m,hm,h⟩:=List.mem_flatMap.1 h
 obtain⟨u,hu,rfl⟩:=List.mem_map.1 h
 rfl
theorem c3V {c:u5}{docs:List y5}{d:y5}{n:q9}{x:C8}(hd:d∈docs)(hx:x∈G3 c (H5 d n)):n∈a0b docs∧x.Text∈L5 c docs n:=by
 refine⟨?_,a38.2 ⟨d,hd,x,hx,rfl⟩⟩
 unfold H5 at hx
 cases hf:d.Fields.find? fun f=>f.Name==n with
 | none=>rw [hf,Option.elim_none,a5b] at hx;cases hx
 | some f=>exact a8q.2 ⟨d,hd,f,List.mem_of_find?_eq_some hf,eq_of_beq (List.find?_some (p:=fun f:O0=>f.Name==n) hf)⟩
def P0 (s:A7)(n t:q9):List G7:=(s.Entries.find? (a5n n t)).elim [] (·.Posts)
theorem a7D (F:Nat)(s:A7)(n t:q9):a33 F s n t=some (P0 s n t):=by
 unfold a33 P0
 rw [a2v (xs:=s.Entries) (a5n n t) (fun e=>e.Posts) (fun i x hx=>?_)]
 ·cases s.Entries.find? (a5n n t)<;>rfl
 ·rw [n5,hx,a8]
  unfold a5n
  rw [R2]
  cases x.Field==n
  ·rfl
  ·cases x.Term==t<;>rfl
theorem b1y (c:u5)(docs:List y5)(n t:q9):P0 (a1L c docs) n t=docs.flatMap (R1 c n t):=by
 unfold P0
 cases hf:(a1L c docs).Entries.find? (a5n n t) with
 | some e=>
  have hm:=List.mem_of_find?_eq_some hf
  have hk:=List.find?_some (p:=a5n n t) hf
  unfold a5n at hk
  rw [l8] at hk
  have e1:=eq_of_beq hk.1
  have e2:=eq_of_beq hk.2
  have:=b9j hm
  rw [this,e1,e2];rfl
 | none=>
  have hno: ∀d∈docs,R1 c n t d=[]:=fun d hd=>by
   cases hp:R1 c n t d with
   | nil=>rfl
   | cons p ps=>
    unfold R1 at hp
    split at hp
    ·rename_i h0
     have h0:=of_decide_eq_true h0
     obtain⟨a,ha⟩:=List.exists_mem_of_length_pos h0
     unfold a1A at ha
     obtain⟨x,hx,hxa⟩:=List.mem_flatMap.1 ha
     have ht:x.Text=t:=by
      split at hxa
      ·rename_i k;exact eq_of_beq k
      ·cases hxa
     obtain⟨k1,k2⟩:=c3V (c:=c) hd hx
     rw [ht] at k2
     have:=List.find?_eq_none.1 hf _ (c1M.2 ⟨k1,k2⟩)
     exact absurd (show a5n n t (M4 c docs n t)=true by unfold a5n M4;simp) this
    ·cases hp
  show []=_
  rw [List.flatMap_eq_nil_iff.2 hno]
end Go.Fk
set_option linter.unusedVariables false
namespace Go.Fk
open Go
theorem a8b (F:Nat)(s:A7)(n t:q9)(hl:s.Entries.length≤10000)(hF:20000<F):a0O F s n t=some (P0 s n t):=by
 unfold a0O P0
 rw [a1b (xs:=s.Entries) (a5n n t) (fun e=>(Sum.inr e.Posts:Unit⊕List G7)) (e:=Sum.inl ()) F (by omega) (fun i x hx=>?_) ?_]
 ·cases s.Entries.find? (a5n n t)<;>rfl
 ·rw [c6 (by omega)];rfl
 ·have hi:=(i4.1 hx).1
  rw [b8 (by omega),i9,n5,hx,a8,a8,a8,y2 (by omega)]
  unfold a5n
  rw [R2]
  cases x.Field==n
  ·rfl
  ·cases x.Term==t<;>rfl
theorem a6S {c:u5}{s:A7}(ho:N0 c s=true)(n t:q9):(P0 s n t).length≤10000∧∀p∈P0 s n t,p.At.length≤10000:=by
 obtain⟨h1,h2,h3⟩:=a3V ho
 have hfit:a5T 10000 s.Entries:=by rw [h3];exact(a96 h2).le (by omega)
 unfold P0
 cases hf:s.Entries.find? (a5n n t) with
 | none=>exact⟨Nat.zero_le _,fun p hp=>by cases hp⟩
 | some e=>exact hfit.2 e (List.mem_of_find?_eq_some hf)
end Go.Fk
