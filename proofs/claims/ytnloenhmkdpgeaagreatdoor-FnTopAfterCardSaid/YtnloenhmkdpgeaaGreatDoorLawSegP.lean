import Derived.Test.YtnloenhmkdpgeaaGreatDoorLawDrs
/-
  A document's field. Of no program.
-/
set_option linter.unusedVariables false
namespace Go.Fk
open Go
theorem a6B (F:Nat)(d:A1)(n:r4):X8 F d n=some (if a5q d then H7 d n else []):=by
 unfold X8 H7
 rw [b3z,a8]
 cases a5q d
 ·rfl
 rw [j4,if_pos rfl,a4P (xs:=d.Fields) (fun f=>f.Name==n) (fun f=>f.Text) (fun i x hx=>?_)]
 ·cases d.Fields.find? fun f=>f.Name==n<;>rfl
 ·rw [n8,hx,a8,T6]
  cases x.Name==n<;>rfl
theorem a7n {d:A1}(h:a5q d=true)(n:r4):a2n (H7 d n)=true:=by
 unfold H7
 cases hf:d.Fields.find? fun f=>f.Name==n with
 | none=>rfl
 | some f=>exact(a8Z h (List.mem_of_find?_eq_some hf)).2
end Go.Fk
set_option linter.unusedVariables false
namespace Go.Fk
open Go
theorem a8k (F:Nat)(s:A5)(id:Int):a0i F s id=some ((s.Docs.find? fun d=>d.Id==id).elim (A1.mk 0 [] [],false) fun d=>(d,true)):=by
 unfold a0i
 rw [a4P (xs:=s.Docs) (fun d=>d.Id==id) (fun d=>(d,true)) (fun i x hx=>?_)]
 ·cases s.Docs.find? fun d=>d.Id==id<;>rfl
 ·rw [n8,hx,a8,T6]
  cases x.Id==id<;>rfl
def M8 (c:u6)(docs:List A1)(n:r4)(id:Int):Nat:=(docs.find? fun d=>d.Id==id).elim 0 fun d=>(G2 c (H7 d n)).length
theorem a7E (F:Nat){c:u6}{d:A1}(hc:Y6 c=true)(hd:a5q d=true)(n:r4)(hF:2000<F):(Option.bind (X8 F d n) fun r=>Q7 F c r)=some (G2 c (H7 d n)):=by
 have h1:=a7k hc
 have h2:=a7n hd n
 have h3:=b04 h2
 rw [a6B,hd,if_pos rfl,a8,a7q F c _ (by omega) (by omega) (by omega),hc,h2];rfl
def a9J (id:Int)(p:F7):Nat:=if p.Doc==id then p.At.length else 0
def a2Z (n:r4)(id:Int)(e:C0):Nat:=if e.Field==n then (e.Posts.map (a9J id)).sum else 0
theorem a6S {α:Type}(w:α→Nat): ∀(l:List α) (a:Nat),l.foldl (fun a x=>a+w x) a=a+(l.map w).sum
 | [],a=>by simp
 | x::l,a=>by rw [List.foldl_cons,a6S w l,List.map_cons,List.sum_cons];omega
theorem b7c {B:Nat}{id:Int}{p:F7}(h:p.At.length≤B):a9J id p≤B:=by unfold a9J;split<;>omega
theorem b1P {α:Type}{w:α→Nat}{B:Nat}: ∀l:List α,(∀x∈l,w x≤B)→(l.map w).sum≤l.length*B
 | [],_=>by simp
 | x::l,h=>by
  have h1:=h x (by simp)
  have h2:=b1P l fun y hy=>h y (by simp [hy])
  rw [List.map_cons,List.sum_cons,s6,Nat.add_mul];omega
theorem b9Z {n:r4}{id:Int}{e:C0}(h:e.Posts.length≤10000∧∀p∈e.Posts,p.At.length≤10000):a2Z n id e≤100000000:=by
 have:=b1P (w:=a9J id) (B:=10000) e.Posts fun p hp=>b7c (h.2 p hp)
 have h1:=h.1
 unfold a2Z
 split<;>omega
theorem c0T (F:Nat)(s:A5)(n:r4)(id:Int)(h:a6k 10000 s.Entries)(hF:20000<F):a3P F s n id=some (((s.Entries.map (a2Z n id)).sum:Nat):Int):=by
 have hl:=h.1
 unfold a3P
 rw [(Y1 (xs:=s.Entries) (fun a e=>a+a2Z n id e) (fun i (a:Nat)=>a≤i*100000000) (fun a=>(a:Int)) (fun a i=>((a:Int),i)) (s0:=((0:Int),(0:Int))) 0 rfl F (by omega) (by simp) (fun i e a hx ha=>?_) (fun a ha=>?_)).1,a6S]
 ·rw [Nat.zero_add];rfl
 ·have hi:=(i4.1 hx).1
  have hp:=h.2 e (n5 hx)
  have hw:=b9Z (n:=n) (id:=id) hp
  have hp1:=hp.1
  refine⟨?_,by omega⟩
  simp only
  rw [b8 (by omega),j4]
  cases hfn:e.Field==n
  ·have e0:a2Z n id e=0:=by unfold a2Z;rw [hfn];rfl
   obtain⟨G,rfl⟩: ∃G,F=G+1:=⟨F-1,by omega⟩
   rw [y2]
   simp only
   rw [n8,hx]
   simp only [a8,hfn]
   have hz:(bif decide ((0:Int)<(e.Posts.length:Int)) then some false else some false)=some false:=by cases decide ((0:Int)<(e.Posts.length:Int))<;>rfl
   rw [hz]
   simp only [a8,i6,Sum.elim_inr]
   rw [y5 (by omega),e0];rfl
  ·rw [(Y1 (xs:=e.Posts) (fun a p=>a+a9J id p) (fun j (b:Nat)=>b≤i*100000000+j*10000) (fun a=>(a:Int)) (fun a i=>((a:Int),i)) (s0:=((a:Int),(0:Int))) a rfl F (by omega) (by rw [Nat.zero_mul,Nat.add_zero];exact ha) (fun j p b hxj hb=>?_) (fun b hb=>?_)).1,a6S]
   ·rw [a8,a8,y5 (by omega)]
    have:a2Z n id e=(e.Posts.map (a9J id)).sum:=by unfold a2Z;rw [hfn];rfl
    rw [this]
   ·have hj:=(i4.1 hxj).1
    have hpw:=b7c (id:=id) (hp.2 p (n5 hxj))
    have hpa:=hp.2 p (n5 hxj)
    refine⟨?_,by omega⟩
    simp only
    rw [n8,hx]
    simp only [a8,hfn]
    rw [b8 (by omega),j4,a8,j4,n8,hxj,a8,a8,y5 (by omega)]
    unfold a9J
    rw [T6]
    cases p.Doc==id
    ·rfl
    ·rw [j4,j4,show (b:Int)+(p.At.length:Int)=((b+p.At.length:Nat):Int) by omega,b3g (by omega)]
   ·simp only
    rw [n8,hx]
    simp only [a8]
    rw [c6 (by omega)];rfl
 ·simp only
  rw [c6 (by omega)];rfl
theorem b03 {α:Type}[DecidableEq α]{w:α→Nat}{a:α}: ∀l:List α,l.Nodup→(∀x∈l,x≠a→w x=0)→(l.map w).sum=if a∈l then w a else 0
 | [],_,_=>by simp
 | x::l,hn,h=>by
  have hc:=List.nodup_cons.1 hn
  have ih:=b03 l hc.2 fun y hy=>h y (by simp [hy])
  rw [List.map_cons,List.sum_cons,ih]
  by_cases e:x=a
  ·subst e
   rw [if_neg hc.1,if_pos (by simp)];rfl
  ·rw [h x (by simp) e,Nat.zero_add]
   have:(a∈x::l)↔a∈l:=by rw [List.mem_cons];exact⟨fun q=>q.resolve_left fun k=>e k.symm,.inr⟩
   simp only [this]
theorem b6b {α:Type}(v w:α→Nat): ∀l:List α,(l.map fun x=>v x+w x).sum=(l.map v).sum+(l.map w).sum
 | []=>rfl
 | x::l=>by simp only [List.map_cons,List.sum_cons,b6b v w l];omega
theorem b02 {α β:Type}(f:α→List β)(w:β→Nat): ∀l:List α,((l.flatMap f).map w).sum=(l.map fun x=>((f x).map w).sum).sum
 | []=>rfl
 | x::l=>by rw [List.flatMap_cons,List.map_append,List.sum_append,b02 f w l];rfl
theorem a6h {α:Type}: ∀l:List α,(l.map fun _=>0).sum=0
 | []=>rfl
 | x::l=>by rw [List.map_cons,List.sum_cons,a6h l]
theorem b1c {T:List r4}(hT:T.Nodup): ∀l:List D3,(∀x∈l,x.Text∈T)→(T.map fun t=>(l.flatMap fun x=>if x.Text==t then [x.At] else []).length).sum=l.length
 | [],_=>by
  exact a6h T
 | x::l,h=>by
  have ih:=b1c hT l fun y hy=>h y (by simp [hy])
  have:(fun t=>((x::l).flatMap fun x=>if x.Text==t then [x.At] else []).length)=fun t=>(if x.Text==t then 1 else 0)+(l.flatMap fun x=>if x.Text==t then [x.At] else []).length:=by
   funext t
   rw [List.flatMap_cons,o0,T6,T6]
   cases x.Text==t<;>rfl
  rw [this,b6b,ih,b03 (a:=x.Text) T hT (fun t _ ht=>by rw [beq_eq_false_iff_ne.2 fun e=>ht e.symm];rfl),if_pos (h x (by simp)),beq_self_eq_true,s6]
  simp;omega
theorem c3a {docs:List A1}{d:A1}{id:Int}(h: ∀e∈docs,d.Id<e.Id)(hd:d.Id=id):docs.find? (fun e=>e.Id==id)=none:=
 List.find?_eq_none.2 fun e he k=>by have:=h e he;have:=eq_of_beq k;omega
theorem b5e (c:u6)(n t:r4)(id:Int): ∀docs:List A1,(docs.Pairwise fun a b=>a.Id<b.Id)→((docs.flatMap (H6 c n t)).map (a9J id)).sum=(docs.find? fun d=>d.Id==id).elim 0 fun d=>(U5 c d n t).length
 | [],_=>rfl
 | d::r,hd=>by
  have hc:=List.pairwise_cons.1 hd
  have ih:=b5e c n t id r hc.2
  rw [List.flatMap_cons,List.map_append,List.sum_append,ih,List.find?_cons]
  have hone:((H6 c n t d).map (a9J id)).sum=if d.Id==id then (U5 c d n t).length else 0:=by
   unfold H6
   by_cases h0:0<(U5 c d n t).length
   ·rw [b8 h0,if_pos rfl];simp [a9J]
   ·rw [c6 h0,if_neg (by simp)]
    have:(U5 c d n t).length=0:=by omega
    rw [this];simp
  rw [hone]
  cases hid:d.Id==id
  ·rw [if_neg (by simp),Nat.zero_add]
  ·rw [if_pos rfl,c3a hc.1 (eq_of_beq hid)];rfl
theorem c1Z {c:u6}{docs:List A1}(hg:a99 docs)(n:r4)(id:Int):((a1F c docs).Entries.map (a2Z n id)).sum=M8 c docs n id:=by
 have hnn:(a0E docs).Nodup:=(show List.Pairwise (fun a b=>D2 a b=true) (a0E docs) from a7r docs).imp fun {a b} k e=>by subst e;rw [a2u] at k;cases k
 have htn:(M9 c docs n).Nodup:=(show List.Pairwise (fun a b=>D2 a b=true) (M9 c docs n) from a6z c docs n).imp fun {a b} k e=>by subst e;rw [a2u] at k;cases k
 show (((a0E docs).flatMap fun n=>(M9 c docs n).map (O5 c docs n)).map (a2Z n id)).sum=_
 rw [b02,b03 (a:=n) _ hnn (fun m _ hm=>?_)]
 ·have hin:((M9 c docs n).map (O5 c docs n)).map (a2Z n id)=(M9 c docs n).map fun t=>(docs.find? fun d=>d.Id==id).elim 0 fun d=>(U5 c d n t).length:=by
   rw [List.map_map]
   refine List.map_congr_left fun t _=>?_
   show a2Z n id (O5 c docs n t)=_
   unfold a2Z O5
   simp only [beq_self_eq_true,if_true]
   exact b5e c n t id docs hg.ids
  rw [hin]
  unfold M8
  cases hf:docs.find? fun d=>d.Id==id with
  | none=>
   simp only [Option.elim_none]
   split
   ·exact a6h _
   ·rfl
  | some d=>
   have hdm:=List.mem_of_find?_eq_some hf
   simp only [Option.elim_some]
   by_cases hm:n∈a0E docs
   ·rw [if_pos hm]
    exact b1c htn _ fun x hx=>a4S.2 ⟨d,hdm,x,hx,rfl⟩
   ·rw [if_neg hm]
    have:H7 d n=[]:=by
     unfold H7
     cases hff:d.Fields.find? fun f=>f.Name==n with
     | none=>rfl
     | some f=>exact absurd (a87.2 ⟨d,hdm,f,List.mem_of_find?_eq_some hff,eq_of_beq (List.find?_some (p:=fun f:Q6=>f.Name==n) hff)⟩) hm
    rw [this,a5R];rfl
 ·have:((M9 c docs m).map (O5 c docs m)).map (a2Z n id)=(M9 c docs m).map fun _=>0:=by
   rw [List.map_map]
   refine List.map_congr_left fun t _=>?_
   show a2Z n id (O5 c docs m t)=0
   unfold a2Z
   have:((O5 c docs m t).Field==n)=false:=beq_eq_false_iff_ne.2 hm
   rw [this];rfl
  rw [this]
  exact a6h _
end Go.Fk
set_option linter.unusedVariables false
namespace Go.Fk
open Go
theorem b6G {c:u6}{docs:List A1}{e:C0}(he:e∈(a1F c docs).Entries):0<e.Posts.length:=by
 unfold a1F at he
 obtain⟨n,_,hm⟩:=List.mem_flatMap.1 he
 obtain⟨t,ht,rfl⟩:=List.mem_map.1 hm
 obtain⟨d,hd,x,hx,rfl⟩:=a4S.1 ht
 have hmem:x.At∈U5 c d n x.Text:=List.mem_flatMap.2 ⟨x,hx,by simp⟩
 have hpos:0<(U5 c d n x.Text).length:=List.length_pos_of_mem hmem
 have:(⟨d.Id,U5 c d n x.Text⟩:F7)∈(O5 c docs n x.Text).Posts:=List.mem_flatMap.2 ⟨d,hd,by unfold H6;rw [b8 hpos,if_pos rfl];simp⟩
 exact List.length_pos_of_mem this
theorem c1K {c:u6}{docs:List A1}{n t:r4}:O5 c docs n t∈(a1F c docs).Entries↔n∈a0E docs∧t∈M9 c docs n:=by
 unfold a1F
 constructor
 ·intro h
  obtain⟨m,hm,h⟩:=List.mem_flatMap.1 h
  obtain⟨u,hu,e⟩:=List.mem_map.1 h
  have e1:m=n:=congrArg C0.Field e
  have e2:u=t:=congrArg C0.Term e
  subst e1;subst e2
  exact⟨hm,hu⟩
 ·rintro⟨h1,h2⟩
  exact List.mem_flatMap.2 ⟨n,h1,List.mem_map.2 ⟨t,h2,rfl⟩⟩
theorem b89 {c:u6}{docs:List A1}{e:C0}(h:e∈(a1F c docs).Entries):e=O5 c docs e.Field e.Term:=by
 unfold a1F at h
 obtain⟨m,hm,h⟩:=List.mem_flatMap.1 h
 obtain⟨u,hu,rfl⟩:=List.mem_map.1 h
 rfl
theorem c3F {c:u6}{docs:List A1}{d:A1}{n:r4}{x:D3}(hd:d∈docs)(hx:x∈G2 c (H7 d n)):n∈a0E docs∧x.Text∈M9 c docs n:=by
 refine⟨?_,a4S.2 ⟨d,hd,x,hx,rfl⟩⟩
 unfold H7 at hx
 cases hf:d.Fields.find? fun f=>f.Name==n with
 | none=>rw [hf,Option.elim_none,a5R] at hx;cases hx
 | some f=>exact a87.2 ⟨d,hd,f,List.mem_of_find?_eq_some hf,eq_of_beq (List.find?_some (p:=fun f:Q6=>f.Name==n) hf)⟩
def G3 (s:A5)(n t:r4):List F7:=(s.Entries.find? (a5H n t)).elim [] (·.Posts)
theorem a5Y (F:Nat)(s:A5)(n t:r4):a0e F s n t=some (G3 s n t):=by
 unfold a0e G3
 rw [a4P (xs:=s.Entries) (a5H n t) (fun e=>e.Posts) (fun i x hx=>?_)]
 ·cases s.Entries.find? (a5H n t)<;>rfl
 ·rw [n8,hx,a8]
  unfold a5H
  rw [T6]
  cases x.Field==n
  ·rfl
  ·cases x.Term==t<;>rfl
theorem a6s (c:u6)(docs:List A1)(n t:r4):G3 (a1F c docs) n t=docs.flatMap (H6 c n t):=by
 unfold G3
 cases hf:(a1F c docs).Entries.find? (a5H n t) with
 | some e=>
  have hm:=List.mem_of_find?_eq_some hf
  have hk:=List.find?_some (p:=a5H n t) hf
  unfold a5H at hk
  rw [q8] at hk
  have e1:=eq_of_beq hk.1
  have e2:=eq_of_beq hk.2
  have:=b89 hm
  rw [this,e1,e2];rfl
 | none=>
  have hno: ∀d∈docs,H6 c n t d=[]:=fun d hd=>by
   cases hp:H6 c n t d with
   | nil=>rfl
   | cons p ps=>
    unfold H6 at hp
    split at hp
    ·rename_i h0
     have h0:=of_decide_eq_true h0
     obtain⟨a,ha⟩:=List.exists_mem_of_length_pos h0
     unfold U5 at ha
     obtain⟨x,hx,hxa⟩:=List.mem_flatMap.1 ha
     have ht:x.Text=t:=by
      split at hxa
      ·rename_i k;exact eq_of_beq k
      ·cases hxa
     obtain⟨k1,k2⟩:=c3F (c:=c) hd hx
     rw [ht] at k2
     have:=List.find?_eq_none.1 hf _ (c1K.2 ⟨k1,k2⟩)
     exact absurd (show a5H n t (O5 c docs n t)=true by unfold a5H O5;simp) this
    ·cases hp
  show []=_
  rw [List.flatMap_eq_nil_iff.2 hno]
end Go.Fk
set_option linter.unusedVariables false
namespace Go.Fk
open Go
theorem a8M (F:Nat)(s:A5)(n t:r4)(hl:s.Entries.length≤10000)(hF:20000<F):a1u F s n t=some (G3 s n t):=by
 unfold a1u G3
 rw [a0u (xs:=s.Entries) (a5H n t) (fun e=>(Sum.inr e.Posts:Unit⊕List F7)) (e:=Sum.inl ()) F (by omega) (fun i x hx=>?_) ?_]
 ·cases s.Entries.find? (a5H n t)<;>rfl
 ·rw [c6 (by omega)];rfl
 ·have hi:=(i4.1 hx).1
  rw [b8 (by omega),j4,n8,hx,a8,a8,a8,y5 (by omega)]
  unfold a5H
  rw [T6]
  cases x.Field==n
  ·rfl
  ·cases x.Term==t<;>rfl
theorem a4A {c:u6}{s:A5}(ho:G9 c s=true)(n t:r4):(G3 s n t).length≤10000∧∀p∈G3 s n t,p.At.length≤10000:=by
 obtain⟨h1,h2,h3⟩:=a0w ho
 have hfit:a6k 10000 s.Entries:=by rw [h3];exact(a8L h2).le (by omega)
 unfold G3
 cases hf:s.Entries.find? (a5H n t) with
 | none=>exact⟨Nat.zero_le _,fun p hp=>by cases hp⟩
 | some e=>exact hfit.2 e (List.mem_of_find?_eq_some hf)
end Go.Fk
