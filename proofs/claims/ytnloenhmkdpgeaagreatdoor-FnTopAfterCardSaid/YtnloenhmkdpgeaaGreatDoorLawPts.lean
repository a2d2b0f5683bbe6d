import Derived.Test.YtnloenhmkdpgeaaGreatDoorLawBase
import Derived.Test.YtnloenhmkdpgeaaGreatDoorLawSegP
/-
  A term's points in a document of a piece: what the program computes is what the reference computes.
-/
set_option linter.unusedVariables false
set_option maxRecDepth 100000
namespace Go.Fk
open Go
theorem a96: ∀(n:Nat) (s:r4) (o k:Nat),s.length≤n→2*(Q3 s o k).length≤s.length+1
 | n,[],o,k,_=>by rw [Y3];simp
 | 0,b::r,o,k,h=>by simp at h
 | n+1,b::r,o,k,h=>by
  rw [Q3]
  by_cases hb:u2 b=true
  ·rw [if_pos hb]
   have hpos:0<((b::r).takeWhile u2).length:=by rw [List.takeWhile_cons,if_pos hb];simp
   have hle:=(List.takeWhile_prefix u2 (l:=b::r)).length_le
   have hdw:(b::r).drop ((b::r).takeWhile u2).length=(b::r).dropWhile u2:=by
    have:=List.takeWhile_append_dropWhile (p:=u2) (l:=b::r)
    conv=>lhs;rw [←this]
    rw [List.drop_left' (by rw [this])]
   have hdl:((b::r).drop ((b::r).takeWhile u2).length).length=(b::r).length-((b::r).takeWhile u2).length:=List.length_drop
   rw [s6]
   cases hr:(b::r).drop ((b::r).takeWhile u2).length with
   | nil=>rw [Y3];simp only [List.length_nil,s6];omega
   | cons x q=>
    have hx:u2 x=false:=by
     rw [hdw] at hr
     have:=List.head_dropWhile_not (p:=u2) (l:=b::r) (by rw [hr];simp)
     simp only [hr,List.head_cons] at this
     simpa using this
    rw [hr] at hdl
    rw [Q3,if_neg (by rw [hx];simp)]
    have ih:=a96 n q (o+((b::r).takeWhile u2).length+1) (k+1) (by simp only [s6] at hdl h;omega)
    simp only [s6] at hdl ⊢
    omega
  ·rw [if_neg hb]
   have ih:=a96 n r (o+1) k (by rw [s6] at h;omega)
   rw [s6];omega
theorem b7Y {c:u6}{s:r4}(h:a2n s=true):(G2 c s).length≤80:=by
 have h1:=b26 (syns:=c.Syns) (a1X c s).length (a1X c s)
 have h2:=Z4 (g:=P9 c.Stops) (m:=1) (a1c s) (fun w _=>a9I c.Stops w)
 have h3:=a96 s.length s 0 0 (Nat.le_refl _)
 unfold a2n at h
 simp only [q8,decide_eq_true_iff] at h
 have h4:=h.2
 have h5:(a1X c s).length=((a1c s).flatMap (P9 c.Stops)).length:=rfl
 have h6:(a1c s).length=(Q3 s 0 0).length:=rfl
 unfold G2;omega
def a2Y (n:r4)(e:C0):Nat:=if e.Field==n then (e.Posts.map fun p=>p.At.length).sum else 0
def a7i (c:u6)(docs:List A1)(n:r4):Nat:=(docs.map fun d=>(G2 c (H7 d n)).length).sum
theorem b7W {α β:Type}(f:α→β→Nat)(T:List α): ∀D:List β,(T.map fun t=>(D.map (f t)).sum).sum=(D.map fun d=>(T.map fun t=>f t d).sum).sum
 | []=>by simp only [List.map_nil,List.sum_nil];exact a6h T
 | d::D=>by
  rw [List.map_cons,List.sum_cons,←b7W f T D,←b6b]
  congr 1
theorem c09 {c:u6}{docs:List A1}(n:r4):((a1F c docs).Entries.map (a2Y n)).sum=a7i c docs n:=by
 have hnn:(a0E docs).Nodup:=(show List.Pairwise (fun a b=>D2 a b=true) (a0E docs) from a7r docs).imp fun {a b} k e=>by subst e;rw [a2u] at k;cases k
 have htn:(M9 c docs n).Nodup:=(show List.Pairwise (fun a b=>D2 a b=true) (M9 c docs n) from a6z c docs n).imp fun {a b} k e=>by subst e;rw [a2u] at k;cases k
 show (((a0E docs).flatMap fun n=>(M9 c docs n).map (O5 c docs n)).map (a2Y n)).sum=_
 rw [b02,b03 (a:=n) _ hnn (fun m _ hm=>?_)]
 ·have hin:((M9 c docs n).map (O5 c docs n)).map (a2Y n)=(M9 c docs n).map fun t=>(docs.map fun d=>(U5 c d n t).length).sum:=by
   rw [List.map_map]
   refine List.map_congr_left fun t _=>?_
   show a2Y n (O5 c docs n t)=_
   unfold a2Y O5
   simp only [beq_self_eq_true,if_true]
   rw [b02]
   congr 1
   refine List.map_congr_left fun d _=>?_
   unfold H6
   by_cases h0:0<(U5 c d n t).length
   ·rw [b8 h0,if_pos rfl];simp
   ·rw [c6 h0,if_neg (by simp)]
    have:(U5 c d n t).length=0:=by omega
    rw [this];rfl
  rw [hin,b7W]
  unfold a7i
  by_cases hm:n∈a0E docs
  ·rw [if_pos hm]
   congr 1
   refine List.map_congr_left fun d hd=>?_
   exact b1c htn _ fun x hx=>a4S.2 ⟨d,hd,x,hx,rfl⟩
  ·rw [if_neg hm]
   have:(docs.map fun d=>(G2 c (H7 d n)).length)=docs.map fun _=>0:=List.map_congr_left fun d hd=>by
    have:H7 d n=[]:=by
     unfold H7
     cases hff:d.Fields.find? fun f=>f.Name==n with
     | none=>rfl
     | some f=>exact absurd (a87.2 ⟨d,hd,f,List.mem_of_find?_eq_some hff,eq_of_beq (List.find?_some (p:=fun f:Q6=>f.Name==n) hff)⟩) hm
    rw [this,a5R];rfl
   rw [this,a6h]
 ·have:((M9 c docs m).map (O5 c docs m)).map (a2Y n)=(M9 c docs m).map fun _=>0:=by
   rw [List.map_map]
   refine List.map_congr_left fun t _=>?_
   show a2Y n (O5 c docs m t)=0
   unfold a2Y
   have:((O5 c docs m t).Field==n)=false:=beq_eq_false_iff_ne.2 hm
   rw [this];rfl
  rw [this]
  exact a6h _
def atS (s:A5)(n t:r4)(id:Int):List Int:=((G3 s n t).find? fun p=>p.Doc==id).elim [] (·.At)
def H2 (c:u6)(s:A5)(n t:r4)(id:Int):Nat:=if (atS s n t id).length=0 then 0 else b54 (atS s n t id).length (M8 c s.Docs n id) (a7i c s.Docs n) s.Docs.length (G3 s n t).length
theorem b9i {c:u6}{d:A1}(n t:r4):(U5 c d n t).length≤(G2 c (H7 d n)).length:=by
 have:=Z4 (g:=fun x:D3=>if x.Text==t then [x.At] else []) (m:=1) (G2 c (H7 d n)) (fun x _=>by split<;>simp)
 unfold U5;omega
theorem b5A {c:u6}{docs:List A1}{n t:r4}{id:Int}(h:(atS (a1F c docs) n t id).length≠0): ∃d∈docs,d.Id=id∧atS (a1F c docs) n t id=U5 c d n t:=by
 unfold atS at h ⊢
 rw [a6s] at h ⊢
 cases hf:(docs.flatMap (H6 c n t)).find? fun p=>p.Doc==id with
 | none=>rw [hf] at h;exact absurd rfl h
 | some p=>
  have hm:=List.mem_of_find?_eq_some hf
  have he:=eq_of_beq (List.find?_some (p:=fun p:F7=>p.Doc==id) hf)
  obtain⟨d,hd,hp⟩:=List.mem_flatMap.1 hm
  unfold H6 at hp
  split at hp
  ·rcases List.mem_singleton.1 hp with rfl
   exact⟨d,hd,he,rfl⟩
  ·cases hp
theorem b7e (c:u6)(n t:r4): ∀docs:List A1,(docs.flatMap (H6 c n t)).length≤docs.length:=fun docs=>by
 have:=Z4 (g:=H6 c n t) (m:=1) docs (fun d _=>b1W c n t d)
 omega
theorem b0q {docs:List A1}(hp:docs.Pairwise fun a b=>a.Id<b.Id){d:A1}(hd:d∈docs):docs.find? (fun e=>e.Id==d.Id)=some d:=by
 induction docs with
 | nil=>cases hd
 | cons e r ih=>
  have hc:=List.pairwise_cons.1 hp
  rw [List.find?_cons]
  rcases List.mem_cons.1 hd with rfl | hd
  ·rw [beq_self_eq_true]
  ·have:=hc.1 d hd
   rw [beq_eq_false_iff_ne.2 (by omega)]
   exact ih hc.2 hd
theorem b9a {α:Type}(w:α→Nat){x:α}: ∀{l:List α},x∈l→w x≤(l.map w).sum
 | y::l,h=>by
  rw [List.map_cons,List.sum_cons]
  rcases List.mem_cons.1 h with rfl | h
  ·omega
  ·have:=b9a w h;omega
theorem a7a {c:u6}{docs:List A1}(hd:a1I docs=true){n t:r4}{id:Int}(h:(atS (a1F c docs) n t id).length≠0):a2z (atS (a1F c docs) n t id).length (M8 c docs n id) (a7i c docs n) docs.length (G3 (a1F c docs) n t).length:=by
 obtain⟨d,hm,hid,hat⟩:=b5A h
 obtain⟨i1,i2,i3⟩:=a0Q hd
 have hdoc:=(a4s hd).2
 have h80: ∀e∈docs,(G2 c (H7 e n)).length≤80:=fun e he=>b7Y (a7n (hdoc e he) n)
 have hfl:M8 c docs n id=(G2 c (H7 d n)).length:=by
  unfold M8
  rw [←hid,b0q i3 hm];rfl
 have h1:=b9i (c:=c) (d:=d) n t
 have h2:=h80 d hm
 have h3:(G2 c (H7 d n)).length≤a7i c docs n:=b9a (fun d=>(G2 c (H7 d n)).length) hm
 have h4:a7i c docs n≤docs.length*80:=b1P docs h80
 have h5:=List.length_pos_of_mem hm
 have h6:=b7e c n t docs
 have h7:0<(G3 (a1F c docs) n t).length:=by
  unfold atS at h
  cases hf:(G3 (a1F c docs) n t).find? fun p=>p.Doc==id with
  | none=>rw [hf] at h;exact absurd rfl h
  | some p=>exact List.length_pos_of_mem (List.mem_of_find?_eq_some hf)
 rw [a6s] at h7 ⊢
 rw [hat] at h ⊢
 rw [hfl]
 exact⟨⟨by omega,by omega⟩,⟨h1,h2⟩,⟨h3,by omega⟩,⟨by omega,i1⟩,⟨h7,h6⟩⟩
end Go.Fk
set_option linter.unusedVariables false
set_option maxRecDepth 100000
namespace Go.Fk
open Go
theorem b7g (F:Nat)(x:T0)(n t:r4):N7 F x n t=a0e F x.s_ n t:=rfl
theorem c4F (F:Nat)(x:T0)(id:Int):T1 F x id=a0i F x.s_ id:=rfl
theorem b88 (F:Nat)(x:T0)(c:u6)(n:r4)(id:Int):L4 F x c n id=U0 F x.s_ c n id:=by
 unfold L4 U0
 rw [c4F]
theorem b40 (F:Nat)(c:u6)(s:A5)(n:r4)(id:Int)(h1:Y6 c=true)(h2:a1I s.Docs=true)(hF:2000<F):U0 F s c n id=some (M8 c s.Docs n id:Int):=by
 unfold U0 M8
 rw [a8k,a8]
 cases hf:s.Docs.find? fun d=>d.Id==id with
 | none=>rfl
 | some d=>
  have hds:=(a4s h2).2 d (List.mem_of_find?_eq_some hf)
  have:=a7E F h1 hds n hF
  simp only [Option.elim_some,l7,i6]
  rw [a6B,a8] at this ⊢
  rw [this];rfl
theorem a8i (F:Nat)(c:u6)(s:A5)(n t:r4)(id:Int):O9 F ⟨c,s⟩ n t id=some (atS s n t id):=by
 unfold O9 atS
 rw [b7g,a5Y,a8]
 rw [a4P (xs:=G3 s n t) (fun p=>p.Doc==id) (fun p=>p.At) (fun i x hx=>by
  rw [n8,hx,a8];cases x.Doc==id<;>rfl)]
 cases (G3 s n t).find? (fun p=>p.Doc==id)<;>rfl
theorem b5Q {c:u6}{docs:List A1}(hd:a1I docs=true)(n:r4){d:A1}(hm:d∈docs):M8 c docs n d.Id=(G2 c (H7 d n)).length:=by
 unfold M8
 rw [b0q (a0Q hd).2.2 hm];rfl
theorem c4T {c:u6}{docs:List A1}(hd:a1I docs=true)(n:r4)(id:Int):M8 c docs n id≤80:=by
 unfold M8
 cases hf:docs.find? fun d=>d.Id==id with
 | none=>exact Nat.zero_le _
 | some d=>exact b7Y (a7n ((a4s hd).2 d (List.mem_of_find?_eq_some hf)) n)
theorem b4n {c:u6}{docs:List A1}(hd:a1I docs=true)(n:r4)(i:Nat):((docs.take i).map fun d=>(G2 c (H7 d n)).length).sum≤16*80:=by
 have h1:=b1P (w:=fun d=>(G2 c (H7 d n)).length) (B:=80) (docs.take i) (fun d hm=>by
  have:=c4T (c:=c) hd n d.Id
  rw [b5Q hd n (List.mem_of_mem_take hm)] at this
  exact this)
 have h2:=(a0Q hd).1
 have h3:(docs.take i).length≤docs.length:=by rw [List.length_take];omega
 exact Nat.le_trans h1 (Nat.mul_le_mul_right _ (by omega))
theorem b8k (F:Nat)(c:u6)(docs:List A1)(n:r4)(hd:a1I docs=true){f:Nat→Int→Option Int}(h: ∀(i:Nat) d (s:Int),docs[i]? =some d→f i s=some (z8 (s+(M8 c docs n d.Id:Int)))):a0C f docs.length 0 (0:Int)=some ((a7i c docs n:Nat):Int):=by
 obtain⟨t,ht,hp⟩:=a6T (σ:=Int) (f:=f) (fun i s=>s=((((docs.take i).map fun d=>(G2 c (H7 d n)).length).sum:Nat):Int)) docs.length (fun i s hi hs=>by
  have hb:=b4n (c:=c) hd n (i+1)
  refine⟨_,h i docs[i] s (j8 hi),?_⟩
  rw [b5Q hd n (List.getElem_mem hi),hs]
  rw [List.take_succ_eq_append_getElem hi,List.map_append,List.sum_append] at hb ⊢
  simp only [List.map_cons,List.map_nil,List.sum_cons,List.sum_nil,Nat.add_zero] at hb ⊢
  exact a5N (by omega)) docs.length 0 0 (by omega) (by simp)
 rw [ht,hp,List.take_length];rfl
theorem a8j (F:Nat)(c:u6)(s:A5)(n t:r4)(id:Int)(ho:G9 c s=true)(hF:1000000000<F):M7 F ⟨c,s⟩ n t id=some (H2 c s n t id:Int):=by
 obtain⟨h1,h2,h3⟩:=a0w ho
 unfold M7 H2
 rw [a8i,a8]
 by_cases h0:(atS s n t id).length=0
 ·rw [if_pos h0,beq_iff_eq.2 (by omega)];rfl
 ·rw [if_neg h0,beq_eq_false_iff_ne.2 (by omega),i6]
  dsimp only
  rw [b8k F c s.Docs n h2 (fun i d a hx=>by
   rw [n8,hx,a8,b88,b40 F c s n d.Id h1 h2 (by omega),a8]),a8,a8,b88,b40 F c s n id h1 h2 (by omega),a8,b7g,a5Y,a8]
  have hs:a2z (atS s n t id).length (M8 c s.Docs n id) (a7i c s.Docs n) s.Docs.length (G3 s n t).length:=by
   have:=a7a (c:=c) h2 (n:=n) (t:=t) (id:=id)
   rw [←h3] at this
   exact this h0
  have hu:=b4q hs
  have hd:=a7m hs
  rw [b1n F _ _ _ _ _ hs hF,a8,a8]
  dsimp only
  rw [a9V F _ _ (by omega) ⟨hd.1,by omega⟩ hF];rfl
theorem b58 (F:Nat)(s:A5)(n t:r4)(id:Int)(hl:s.Entries.length≤10000)(hp:(G3 s n t).length≤10000)(hF:20000<F):a1P F s n t id=some (atS s n t id):=by
 unfold a1P atS
 rw [a8M F s n t hl hF,a8]
 rw [a0u (xs:=G3 s n t) (fun p=>p.Doc==id) (fun p=>(.inr p.At:Unit⊕List Int)) (e:=.inl ()) F (by omega) (fun i x hx=>?_) ?_]
 ·cases (G3 s n t).find? (fun p=>p.Doc==id)<;>rfl
 ·rw [c6 (by omega)];rfl
 ·have hi:=(i4.1 hx).1
  rw [b8 (by omega),j4,n8,hx,a8,a8,y5 (by omega)]
  cases x.Doc==id<;>rfl
theorem b9Y {n:r4}{e:C0}(h:e.Posts.length≤10000∧∀p∈e.Posts,p.At.length≤10000):a2Y n e≤100000000:=by
 unfold a2Y
 split
 ·have:=b1P (w:=fun p:F7=>p.At.length) e.Posts h.2
  have h2:e.Posts.length*10000≤10000*10000:=Nat.mul_le_mul_right _ h.1
  omega
 ·omega
theorem b8M (F:Nat)(s:A5)(n:r4)(h:a6k 10000 s.Entries)(hF:20000<F):a19 F s n=some (((s.Entries.map (a2Y n)).sum:Nat):Int):=by
 have hl:=h.1
 unfold a19
 rw [(Y1 (xs:=s.Entries) (fun a e=>a+a2Y n e) (fun i (a:Nat)=>a≤i*100000000) (fun a=>(a:Int)) (fun a i=>((a:Int),i)) (s0:=((0:Int),(0:Int))) 0 rfl F (by omega) (by simp) (fun i e a hx ha=>?_) (fun a ha=>?_)).1,a6S]
 ·rw [Nat.zero_add];rfl
 ·have hi:=(i4.1 hx).1
  have hp:=h.2 e (n5 hx)
  have hw:=b9Y (n:=n) hp
  have hp1:=hp.1
  refine⟨?_,by omega⟩
  simp only
  rw [b8 (by omega),j4]
  cases hfn:e.Field==n
  ·have e0:a2Y n e=0:=by unfold a2Y;rw [hfn];rfl
   obtain⟨G,rfl⟩: ∃G,F=G+1:=⟨F-1,by omega⟩
   rw [y2]
   simp only
   rw [n8,hx]
   simp only [a8,hfn]
   have hz:(bif decide ((0:Int)<(e.Posts.length:Int)) then some false else some false)=some false:=by cases decide ((0:Int)<(e.Posts.length:Int))<;>rfl
   rw [hz]
   simp only [a8,i6,Sum.elim_inr]
   rw [y5 (by omega),e0];rfl
  ·rw [(Y1 (xs:=e.Posts) (fun a p=>a+p.At.length) (fun j (b:Nat)=>b≤i*100000000+j*10000) (fun a=>(a:Int)) (fun a i=>((a:Int),i)) (s0:=((a:Int),(0:Int))) a rfl F (by omega) (by rw [Nat.zero_mul,Nat.add_zero];exact ha) (fun j p b hxj hb=>?_) (fun b hb=>?_)).1,a6S]
   ·rw [a8,a8,y5 (by omega)]
    have:a2Y n e=(e.Posts.map fun p=>p.At.length).sum:=by unfold a2Y;rw [hfn];rfl
    rw [this]
   ·have hj:=(i4.1 hxj).1
    have hpa:=hp.2 p (n5 hxj)
    refine⟨?_,by omega⟩
    simp only
    rw [n8,hx]
    simp only [a8,hfn]
    rw [b8 (by omega),j4,a8,j4,n8,hxj,a8,y5 (by omega),a5N (by omega)]
   ·simp only
    rw [n8,hx]
    simp only [a8]
    rw [c6 (by omega)];rfl
 ·simp only
  rw [c6 (by omega)];rfl
theorem a8N (F:Nat)(c:u6)(s:A5)(n t:r4)(id:Int)(ho:G9 c s=true)(hF:1000000000<F):U9 F s n t id=some (H2 c s n t id:Int):=by
 obtain⟨h1,h2,h3⟩:=a0w ho
 have hfit:a6k 10000 s.Entries:=by
  have:=a8L (c:=c) h2
  rw [h3]
  exact⟨by have:=this.1;omega,fun e he=>⟨by have:=(this.2 e he).1;omega,fun p hp=>by have:=(this.2 e he).2 p hp;omega⟩⟩
 have hpl:=(a4A ho n t).1
 unfold U9 H2
 rw [b58 F s n t id hfit.1 hpl (by omega),a8]
 by_cases h0:(atS s n t id).length=0
 ·rw [if_pos h0,beq_iff_eq.2 (by omega)];rfl
 ·rw [if_neg h0,beq_eq_false_iff_ne.2 (by omega),i6]
  have hs:a2z (atS s n t id).length (M8 c s.Docs n id) (a7i c s.Docs n) s.Docs.length (G3 s n t).length:=by
   have:=a7a (c:=c) h2 (n:=n) (t:=t) (id:=id)
   rw [←h3] at this
   exact this h0
  have hu:=b4q hs
  have hd:=a7m hs
  have hsum:(s.Entries.map (a2Y n)).sum=a7i c s.Docs n:=by
   have:=c09 (c:=c) (docs:=s.Docs) n
   rw [←h3] at this;exact this
  have hlen:(s.Entries.map (a2Z n id)).sum=M8 c s.Docs n id:=by
   have:=c1Z (c:=c) (b1i h2) n id
   rw [←h3] at this;exact this
  rw [c0T F s n id hfit (by omega),a8,b8M F s n hfit (by omega),a8,a8M F s n t hfit.1 (by omega),a8,hsum,hlen,c0Y F _ _ _ _ _ hs hF,a8,a8]
  dsimp only
  rw [b8H _ _ (by omega) ⟨hd.1,by omega⟩];rfl
theorem a4b (c:u6)(s:A5)(n t:r4)(id:Int)(ho:G9 c s=true):H2 c s n t id≤1000000000:=by
 obtain⟨h1,h2,h3⟩:=a0w ho
 unfold H2
 split
 ·omega
 ·rename_i h0
  have hs:a2z (atS s n t id).length (M8 c s.Docs n id) (a7i c s.Docs n) s.Docs.length (G3 s n t).length:=by
   have:=a7a (c:=c) h2 (n:=n) (t:=t) (id:=id)
   rw [←h3] at this
   exact this h0
  have hu:=b4q hs
  unfold b54 a9z
  have a1:upN (atS s n t id).length s.Docs.length (G3 s n t).length/Nat.gcd (upN (atS s n t id).length s.Docs.length (G3 s n t).length) (a7C (atS s n t id).length (M8 c s.Docs n id) (a7i c s.Docs n) s.Docs.length)≤upN (atS s n t id).length s.Docs.length (G3 s n t).length:=Nat.div_le_self _ _
  refine Nat.le_trans (Nat.div_le_self _ _) ?_
  omega
end Go.Fk
