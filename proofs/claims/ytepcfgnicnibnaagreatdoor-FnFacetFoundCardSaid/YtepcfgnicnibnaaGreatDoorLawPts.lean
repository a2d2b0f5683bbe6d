import Derived.Test.YtepcfgnicnibnaaGreatDoorLawBase
import Derived.Test.YtepcfgnicnibnaaGreatDoorLawSegP
/-
  A term's points in a document of a piece: what the program computes is what the reference computes.
-/
set_option linter.unusedVariables false
set_option maxRecDepth 100000
namespace Go.Fk
open Go
theorem a9j: ∀(n:Nat) (s:q9) (o k:Nat),s.length≤n→2*(W6 s o k).length≤s.length+1
 | n,[],o,k,_=>by rw [a0A];simp
 | 0,b::r,o,k,h=>by simp at h
 | n+1,b::r,o,k,h=>by
  rw [W6]
  by_cases hb:isW b=true
  ·rw [if_pos hb]
   have hpos:0<((b::r).takeWhile isW).length:=by rw [List.takeWhile_cons,if_pos hb];simp
   have hle:=(List.takeWhile_prefix isW (l:=b::r)).length_le
   have hdw:(b::r).drop ((b::r).takeWhile isW).length=(b::r).dropWhile isW:=by
    have:=List.takeWhile_append_dropWhile (p:=isW) (l:=b::r)
    conv=>lhs;rw [←this]
    rw [List.drop_left' (by rw [this])]
   have hdl:((b::r).drop ((b::r).takeWhile isW).length).length=(b::r).length-((b::r).takeWhile isW).length:=List.length_drop
   rw [r4]
   cases hr:(b::r).drop ((b::r).takeWhile isW).length with
   | nil=>rw [a0A];simp only [List.length_nil,r4];omega
   | cons x q=>
    have hx:isW x=false:=by
     rw [hdw] at hr
     have:=List.head_dropWhile_not (p:=isW) (l:=b::r) (by rw [hr];simp)
     simp only [hr,List.head_cons] at this
     simpa using this
    rw [hr] at hdl
    rw [W6,if_neg (by rw [hx];simp)]
    have ih:=a9j n q (o+((b::r).takeWhile isW).length+1) (k+1) (by simp only [r4] at hdl h;omega)
    simp only [r4] at hdl ⊢
    omega
  ·rw [if_neg hb]
   have ih:=a9j n r (o+1) k (by rw [r4] at h;omega)
   rw [r4];omega
theorem b7M {c:u5}{s:q9}(h:a2o s=true):(G3 c s).length≤80:=by
 have h1:=b2B (syns:=c.Syns) (a2H c s).length (a2H c s)
 have h2:=W3 (g:=a1z c.Stops) (m:=1) (a1M s) (fun w _=>a8R c.Stops w)
 have h3:=a9j s.length s 0 0 (Nat.le_refl _)
 unfold a2o at h
 simp only [l8,decide_eq_true_iff] at h
 have h4:=h.2
 have h5:(a2H c s).length=((a1M s).flatMap (a1z c.Stops)).length:=rfl
 have h6:(a1M s).length=(W6 s 0 0).length:=rfl
 unfold G3;omega
def a2i (n:q9)(e:B1):Nat:=if e.Field==n then (e.Posts.map fun p=>p.At.length).sum else 0
def b2m (c:u5)(docs:List y5)(n:q9):Nat:=(docs.map fun d=>(G3 c (H5 d n)).length).sum
theorem b7K {α β:Type}(f:α→β→Nat)(T:List α): ∀D:List β,(T.map fun t=>(D.map (f t)).sum).sum=(D.map fun d=>(T.map fun t=>f t d).sum).sum
 | []=>by simp only [List.map_nil,List.sum_nil];exact a5E T
 | d::D=>by
  rw [List.map_cons,List.sum_cons,←b7K f T D,←b53]
  congr 1
theorem c04 {c:u5}{docs:List y5}(n:q9):((a1L c docs).Entries.map (a2i n)).sum=b2m c docs n:=by
 have hnn:(a0b docs).Nodup:=(show List.Pairwise (fun a b=>C4 a b=true) (a0b docs) from a6N docs).imp fun {a b} k e=>by subst e;rw [a1G] at k;cases k
 have htn:(L5 c docs n).Nodup:=(show List.Pairwise (fun a b=>C4 a b=true) (L5 c docs n) from a51 c docs n).imp fun {a b} k e=>by subst e;rw [a1G] at k;cases k
 show (((a0b docs).flatMap fun n=>(L5 c docs n).map (M4 c docs n)).map (a2i n)).sum=_
 rw [b0c,b0e (a:=n) _ hnn (fun m _ hm=>?_)]
 ·have hin:((L5 c docs n).map (M4 c docs n)).map (a2i n)=(L5 c docs n).map fun t=>(docs.map fun d=>(a1A c d n t).length).sum:=by
   rw [List.map_map]
   refine List.map_congr_left fun t _=>?_
   show a2i n (M4 c docs n t)=_
   unfold a2i M4
   simp only [beq_self_eq_true,if_true]
   rw [b0c]
   congr 1
   refine List.map_congr_left fun d _=>?_
   unfold R1
   by_cases h0:0<(a1A c d n t).length
   ·rw [b8 h0,if_pos rfl];simp
   ·rw [c6 h0,if_neg (by simp)]
    have:(a1A c d n t).length=0:=by omega
    rw [this];rfl
  rw [hin,b7K]
  unfold b2m
  by_cases hm:n∈a0b docs
  ·rw [if_pos hm]
   congr 1
   refine List.map_congr_left fun d hd=>?_
   exact b0o htn _ fun x hx=>a38.2 ⟨d,hd,x,hx,rfl⟩
  ·rw [if_neg hm]
   have:(docs.map fun d=>(G3 c (H5 d n)).length)=docs.map fun _=>0:=List.map_congr_left fun d hd=>by
    have:H5 d n=[]:=by
     unfold H5
     cases hff:d.Fields.find? fun f=>f.Name==n with
     | none=>rfl
     | some f=>exact absurd (a8q.2 ⟨d,hd,f,List.mem_of_find?_eq_some hff,eq_of_beq (List.find?_some (p:=fun f:O0=>f.Name==n) hff)⟩) hm
    rw [this,a5b];rfl
   rw [this,a5E]
 ·have:((L5 c docs m).map (M4 c docs m)).map (a2i n)=(L5 c docs m).map fun _=>0:=by
   rw [List.map_map]
   refine List.map_congr_left fun t _=>?_
   show a2i n (M4 c docs m t)=0
   unfold a2i
   have:((M4 c docs m t).Field==n)=false:=beq_eq_false_iff_ne.2 hm
   rw [this];rfl
  rw [this]
  exact a5E _
def atS (s:A7)(n t:q9)(id:Int):List Int:=((P0 s n t).find? fun p=>p.Doc==id).elim [] (·.At)
def O9 (c:u5)(s:A7)(n t:q9)(id:Int):Nat:=if (atS s n t id).length=0 then 0 else c2w (atS s n t id).length (R9 c s.Docs n id) (b2m c s.Docs n) s.Docs.length (P0 s n t).length
theorem b9s {c:u5}{d:y5}(n t:q9):(a1A c d n t).length≤(G3 c (H5 d n)).length:=by
 have:=W3 (g:=fun x:C8=>if x.Text==t then [x.At] else []) (m:=1) (G3 c (H5 d n)) (fun x _=>by split<;>simp)
 unfold a1A;omega
theorem c1l {c:u5}{docs:List y5}{n t:q9}{id:Int}(h:(atS (a1L c docs) n t id).length≠0): ∃d∈docs,d.Id=id∧atS (a1L c docs) n t id=a1A c d n t:=by
 unfold atS at h ⊢
 rw [b1y] at h ⊢
 cases hf:(docs.flatMap (R1 c n t)).find? fun p=>p.Doc==id with
 | none=>rw [hf] at h;exact absurd rfl h
 | some p=>
  have hm:=List.mem_of_find?_eq_some hf
  have he:=eq_of_beq (List.find?_some (p:=fun p:G7=>p.Doc==id) hf)
  obtain⟨d,hd,hp⟩:=List.mem_flatMap.1 hm
  unfold R1 at hp
  split at hp
  ·rcases List.mem_singleton.1 hp with rfl
   exact⟨d,hd,he,rfl⟩
  ·cases hp
theorem c2h (c:u5)(n t:q9): ∀docs:List y5,(docs.flatMap (R1 c n t)).length≤docs.length:=fun docs=>by
 have:=W3 (g:=R1 c n t) (m:=1) docs (fun d _=>b1a c n t d)
 omega
theorem b5y {docs:List y5}(hp:docs.Pairwise fun a b=>a.Id<b.Id){d:y5}(hd:d∈docs):docs.find? (fun e=>e.Id==d.Id)=some d:=by
 induction docs with
 | nil=>cases hd
 | cons e r ih=>
  have hc:=List.pairwise_cons.1 hp
  rw [List.find?_cons]
  rcases List.mem_cons.1 hd with rfl | hd
  ·rw [beq_self_eq_true]
  ·have:=hc.1 d hd
   rw [beq_eq_false_iff_ne.2 (by omega)]
   exact ih hc.2 hd
theorem b9k {α:Type}(w:α→Nat){x:α}: ∀{l:List α},x∈l→w x≤(l.map w).sum
 | y::l,h=>by
  rw [List.map_cons,List.sum_cons]
  rcases List.mem_cons.1 h with rfl | h
  ·omega
  ·have:=b9k w h;omega
theorem b3F {c:u5}{docs:List y5}(hd:Z6 docs=true){n t:q9}{id:Int}(h:(atS (a1L c docs) n t id).length≠0):a4n (atS (a1L c docs) n t id).length (R9 c docs n id) (b2m c docs n) docs.length (P0 (a1L c docs) n t).length:=by
 obtain⟨d,hm,hid,hat⟩:=c1l h
 obtain⟨i1,i2,i3⟩:=a3J hd
 have hdoc:=(a4D hd).2
 have h80: ∀e∈docs,(G3 c (H5 e n)).length≤80:=fun e he=>b7M (a6K (hdoc e he) n)
 have hfl:R9 c docs n id=(G3 c (H5 d n)).length:=by
  unfold R9
  rw [←hid,b5y i3 hm];rfl
 have h1:=b9s (c:=c) (d:=d) n t
 have h2:=h80 d hm
 have h3:(G3 c (H5 d n)).length≤b2m c docs n:=b9k (fun d=>(G3 c (H5 d n)).length) hm
 have h4:b2m c docs n≤docs.length*80:=b02 docs h80
 have h5:=List.length_pos_of_mem hm
 have h6:=c2h c n t docs
 have h7:0<(P0 (a1L c docs) n t).length:=by
  unfold atS at h
  cases hf:(P0 (a1L c docs) n t).find? fun p=>p.Doc==id with
  | none=>rw [hf] at h;exact absurd rfl h
  | some p=>exact List.length_pos_of_mem (List.mem_of_find?_eq_some hf)
 rw [b1y] at h7 ⊢
 rw [hat] at h ⊢
 rw [hfl]
 exact⟨⟨by omega,by omega⟩,⟨h1,h2⟩,⟨h3,by omega⟩,⟨by omega,i1⟩,⟨h7,h6⟩⟩
end Go.Fk
set_option linter.unusedVariables false
set_option maxRecDepth 100000
namespace Go.Fk
open Go
theorem b61 (F:Nat)(x:S8)(n t:q9):L6 F x n t=a33 F x.s_ n t:=rfl
theorem c4U (F:Nat)(x:S8)(id:Int):Q9 F x id=a3B F x.s_ id:=rfl
theorem b9h (F:Nat)(x:S8)(c:u5)(n:q9)(id:Int):I7 F x c n id=a26 F x.s_ c n id:=by
 unfold I7 a26
 rw [c4U]
theorem b4I (F:Nat)(c:u5)(s:A7)(n:q9)(id:Int)(h1:X2 c=true)(h2:Z6 s.Docs=true)(hF:2000<F):a26 F s c n id=some (R9 c s.Docs n id:Int):=by
 unfold a26 R9
 rw [b6M,a8]
 cases hf:s.Docs.find? fun d=>d.Id==id with
 | none=>rfl
 | some d=>
  have hds:=(a4D h2).2 d (List.mem_of_find?_eq_some hf)
  have:=b1N F h1 hds n hF
  simp only [Option.elim_some,l9,i6]
  rw [a8L,a8] at this ⊢
  rw [this];rfl
theorem a7F (F:Nat)(c:u5)(s:A7)(n t:q9)(id:Int):M8 F ⟨c,s⟩ n t id=some (atS s n t id):=by
 unfold M8 atS
 rw [b61,a7D,a8]
 rw [a2v (xs:=P0 s n t) (fun p=>p.Doc==id) (fun p=>p.At) (fun i x hx=>by
  rw [n5,hx,a8];cases x.Doc==id<;>rfl)]
 cases (P0 s n t).find? (fun p=>p.Doc==id)<;>rfl
theorem c12 {c:u5}{docs:List y5}(hd:Z6 docs=true)(n:q9){d:y5}(hm:d∈docs):R9 c docs n d.Id=(G3 c (H5 d n)).length:=by
 unfold R9
 rw [b5y (a3J hd).2.2 hm];rfl
theorem c43 {c:u5}{docs:List y5}(hd:Z6 docs=true)(n:q9)(id:Int):R9 c docs n id≤80:=by
 unfold R9
 cases hf:docs.find? fun d=>d.Id==id with
 | none=>exact Nat.zero_le _
 | some d=>exact b7M (a6K ((a4D hd).2 d (List.mem_of_find?_eq_some hf)) n)
theorem c2O {c:u5}{docs:List y5}(hd:Z6 docs=true)(n:q9)(i:Nat):((docs.take i).map fun d=>(G3 c (H5 d n)).length).sum≤16*80:=by
 have h1:=b02 (w:=fun d=>(G3 c (H5 d n)).length) (B:=80) (docs.take i) (fun d hm=>by
  have:=c43 (c:=c) hd n d.Id
  rw [c12 hd n (List.mem_of_mem_take hm)] at this
  exact this)
 have h2:=(a3J hd).1
 have h3:(docs.take i).length≤docs.length:=by rw [List.length_take];omega
 exact Nat.le_trans h1 (Nat.mul_le_mul_right _ (by omega))
theorem b8h (F:Nat)(c:u5)(docs:List y5)(n:q9)(hd:Z6 docs=true){f:Nat→Int→Option Int}(h: ∀(i:Nat) d (s:Int),docs[i]? =some d→f i s=some (A1 (s+(R9 c docs n d.Id:Int)))):U6 f docs.length 0 (0:Int)=some ((b2m c docs n:Nat):Int):=by
 obtain⟨t,ht,hp⟩:=a6r (σ:=Int) (f:=f) (fun i s=>s=((((docs.take i).map fun d=>(G3 c (H5 d n)).length).sum:Nat):Int)) docs.length (fun i s hi hs=>by
  have hb:=c2O (c:=c) hd n (i+1)
  refine⟨_,h i docs[i] s (j4 hi),?_⟩
  rw [c12 hd n (List.getElem_mem hi),hs]
  rw [List.take_succ_eq_append_getElem hi,List.map_append,List.sum_append] at hb ⊢
  simp only [List.map_cons,List.map_nil,List.sum_cons,List.sum_nil,Nat.add_zero] at hb ⊢
  exact a60 (by omega)) docs.length 0 0 (by omega) (by simp)
 rw [ht,hp,List.take_length];rfl
theorem a7G (F:Nat)(c:u5)(s:A7)(n t:q9)(id:Int)(ho:N0 c s=true)(hF:1000000000<F):L1 F ⟨c,s⟩ n t id=some (O9 c s n t id:Int):=by
 obtain⟨h1,h2,h3⟩:=a3V ho
 unfold L1 O9
 rw [a7F,a8]
 by_cases h0:(atS s n t id).length=0
 ·rw [if_pos h0,beq_iff_eq.2 (by omega)];rfl
 ·rw [if_neg h0,beq_eq_false_iff_ne.2 (by omega),i6]
  dsimp only
  rw [b8h F c s.Docs n h2 (fun i d a hx=>by
   rw [n5,hx,a8,b9h,b4I F c s n d.Id h1 h2 (by omega),a8]),a8,a8,b9h,b4I F c s n id h1 h2 (by omega),a8,b61,a7D,a8]
  have hs:a4n (atS s n t id).length (R9 c s.Docs n id) (b2m c s.Docs n) s.Docs.length (P0 s n t).length:=by
   have:=b3F (c:=c) h2 (n:=n) (t:=t) (id:=id)
   rw [←h3] at this
   exact this h0
  have hu:=b7Q hs
  have hd:=b2n hs
  rw [c0q F _ _ _ _ _ hs hF,a8,a8]
  dsimp only
  rw [b8a F _ _ (by omega) ⟨hd.1,by omega⟩ hF];rfl
theorem b50 (F:Nat)(s:A7)(n t:q9)(id:Int)(hl:s.Entries.length≤10000)(hp:(P0 s n t).length≤10000)(hF:20000<F):a05 F s n t id=some (atS s n t id):=by
 unfold a05 atS
 rw [a8b F s n t hl hF,a8]
 rw [a1b (xs:=P0 s n t) (fun p=>p.Doc==id) (fun p=>(.inr p.At:Unit⊕List Int)) (e:=.inl ()) F (by omega) (fun i x hx=>?_) ?_]
 ·cases (P0 s n t).find? (fun p=>p.Doc==id)<;>rfl
 ·rw [c6 (by omega)];rfl
 ·have hi:=(i4.1 hx).1
  rw [b8 (by omega),i9,n5,hx,a8,a8,y2 (by omega)]
  cases x.Doc==id<;>rfl
theorem b95 {n:q9}{e:B1}(h:e.Posts.length≤10000∧∀p∈e.Posts,p.At.length≤10000):a2i n e≤100000000:=by
 unfold a2i
 split
 ·have:=b02 (w:=fun p:G7=>p.At.length) e.Posts h.2
  have h2:e.Posts.length*10000≤10000*10000:=Nat.mul_le_mul_right _ h.1
  omega
 ·omega
theorem b8O (F:Nat)(s:A7)(n:q9)(h:a5T 10000 s.Entries)(hF:20000<F):a1q F s n=some (((s.Entries.map (a2i n)).sum:Nat):Int):=by
 have hl:=h.1
 unfold a1q
 rw [(U5 (xs:=s.Entries) (fun a e=>a+a2i n e) (fun i (a:Nat)=>a≤i*100000000) (fun a=>(a:Int)) (fun a i=>((a:Int),i)) (s0:=((0:Int),(0:Int))) 0 rfl F (by omega) (by simp) (fun i e a hx ha=>?_) (fun a ha=>?_)).1,a6q]
 ·rw [Nat.zero_add];rfl
 ·have hi:=(i4.1 hx).1
  have hp:=h.2 e (l7 hx)
  have hw:=b95 (n:=n) hp
  have hp1:=hp.1
  refine⟨?_,by omega⟩
  simp only
  rw [b8 (by omega),i9]
  cases hfn:e.Field==n
  ·have e0:a2i n e=0:=by unfold a2i;rw [hfn];rfl
   obtain⟨G,rfl⟩: ∃G,F=G+1:=⟨F-1,by omega⟩
   rw [v8]
   simp only
   rw [n5,hx]
   simp only [a8,hfn]
   have hz:(bif decide ((0:Int)<(e.Posts.length:Int)) then some false else some false)=some false:=by cases decide ((0:Int)<(e.Posts.length:Int))<;>rfl
   rw [hz]
   simp only [a8,i6,Sum.elim_inr]
   rw [y2 (by omega),e0];rfl
  ·rw [(U5 (xs:=e.Posts) (fun a p=>a+p.At.length) (fun j (b:Nat)=>b≤i*100000000+j*10000) (fun a=>(a:Int)) (fun a i=>((a:Int),i)) (s0:=((a:Int),(0:Int))) a rfl F (by omega) (by rw [Nat.zero_mul,Nat.add_zero];exact ha) (fun j p b hxj hb=>?_) (fun b hb=>?_)).1,a6q]
   ·rw [a8,a8,y2 (by omega)]
    have:a2i n e=(e.Posts.map fun p=>p.At.length).sum:=by unfold a2i;rw [hfn];rfl
    rw [this]
   ·have hj:=(i4.1 hxj).1
    have hpa:=hp.2 p (l7 hxj)
    refine⟨?_,by omega⟩
    simp only
    rw [n5,hx]
    simp only [a8,hfn]
    rw [b8 (by omega),i9,a8,i9,n5,hxj,a8,y2 (by omega),a60 (by omega)]
   ·simp only
    rw [n5,hx]
    simp only [a8]
    rw [c6 (by omega)];rfl
 ·simp only
  rw [c6 (by omega)];rfl
theorem a8c (F:Nat)(c:u5)(s:A7)(n t:q9)(id:Int)(ho:N0 c s=true)(hF:1000000000<F):S3 F s n t id=some (O9 c s n t id:Int):=by
 obtain⟨h1,h2,h3⟩:=a3V ho
 have hfit:a5T 10000 s.Entries:=by
  have:=a96 (c:=c) h2
  rw [h3]
  exact⟨by have:=this.1;omega,fun e he=>⟨by have:=(this.2 e he).1;omega,fun p hp=>by have:=(this.2 e he).2 p hp;omega⟩⟩
 have hpl:=(a6S ho n t).1
 unfold S3 O9
 rw [b50 F s n t id hfit.1 hpl (by omega),a8]
 by_cases h0:(atS s n t id).length=0
 ·rw [if_pos h0,beq_iff_eq.2 (by omega)];rfl
 ·rw [if_neg h0,beq_eq_false_iff_ne.2 (by omega),i6]
  have hs:a4n (atS s n t id).length (R9 c s.Docs n id) (b2m c s.Docs n) s.Docs.length (P0 s n t).length:=by
   have:=b3F (c:=c) h2 (n:=n) (t:=t) (id:=id)
   rw [←h3] at this
   exact this h0
  have hu:=b7Q hs
  have hd:=b2n hs
  have hsum:(s.Entries.map (a2i n)).sum=b2m c s.Docs n:=by
   have:=c04 (c:=c) (docs:=s.Docs) n
   rw [←h3] at this;exact this
  have hlen:(s.Entries.map (a2j n id)).sum=R9 c s.Docs n id:=by
   have:=c13 (c:=c) (b0s h2) n id
   rw [←h3] at this;exact this
  rw [c0P F s n id hfit (by omega),a8,b8O F s n hfit (by omega),a8,a8b F s n t hfit.1 (by omega),a8,hsum,hlen,c0U F _ _ _ _ _ hs hF,a8,a8]
  dsimp only
  rw [b8J _ _ (by omega) ⟨hd.1,by omega⟩];rfl
theorem a4e (c:u5)(s:A7)(n t:q9)(id:Int)(ho:N0 c s=true):O9 c s n t id≤1000000000:=by
 obtain⟨h1,h2,h3⟩:=a3V ho
 unfold O9
 split
 ·omega
 ·rename_i h0
  have hs:a4n (atS s n t id).length (R9 c s.Docs n id) (b2m c s.Docs n) s.Docs.length (P0 s n t).length:=by
   have:=b3F (c:=c) h2 (n:=n) (t:=t) (id:=id)
   rw [←h3] at this
   exact this h0
  have hu:=b7Q hs
  unfold c2w b4P
  have a1:upN (atS s n t id).length s.Docs.length (P0 s n t).length/Nat.gcd (upN (atS s n t id).length s.Docs.length (P0 s n t).length) (a7y (atS s n t id).length (R9 c s.Docs n id) (b2m c s.Docs n) s.Docs.length)≤upN (atS s n t id).length s.Docs.length (P0 s n t).length:=Nat.div_le_self _ _
  refine Nat.le_trans (Nat.div_le_self _ _) ?_
  omega
end Go.Fk
