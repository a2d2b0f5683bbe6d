import Derived.Test.YtpdfkjjmcnhakaaGreatDoorLawRat
import Derived.Test.YtpdfkjjmcnhakaaGreatDoorLawSegP
/-
  A term's points in a document of a piece: what the program computes is what the reference computes.
-/
set_option linter.unusedVariables false
set_option maxRecDepth 100000
namespace Go.Fk
open Go
theorem a5F: ∀(n:Nat) (s:l3) (o k:Nat),s.length≤n→2*(L7 s o k).length≤s.length+1
 | n,[],o,k,_=>by rw [P1];simp
 | 0,b::r,o,k,h=>by simp at h
 | n+1,b::r,o,k,h=>by
  rw [L7]
  by_cases hb:M9 b=true
  ·rw [if_pos hb]
   have hpos:0<((b::r).takeWhile M9).length:=by rw [List.takeWhile_cons,if_pos hb];simp
   have hle:=(List.takeWhile_prefix M9 (l:=b::r)).length_le
   have hdw:(b::r).drop ((b::r).takeWhile M9).length=(b::r).dropWhile M9:=by
    have:=List.takeWhile_append_dropWhile (p:=M9) (l:=b::r)
    conv=>lhs;rw [←this]
    rw [List.drop_left' (by rw [this])]
   have hdl:((b::r).drop ((b::r).takeWhile M9).length).length=(b::r).length-((b::r).takeWhile M9).length:=List.length_drop
   rw [l9]
   cases hr:(b::r).drop ((b::r).takeWhile M9).length with
   | nil=>rw [P1];simp only [List.length_nil,l9];omega
   | cons x q=>
    have hx:M9 x=false:=by
     rw [hdw] at hr
     have:=List.head_dropWhile_not (p:=M9) (l:=b::r) (by rw [hr];simp)
     simp only [hr,List.head_cons] at this
     simpa using this
    rw [hr] at hdl
    rw [L7,if_neg (by rw [hx];simp)]
    have ih:=a5F n q (o+((b::r).takeWhile M9).length+1) (k+1) (by simp only [l9] at hdl h;omega)
    simp only [l9] at hdl ⊢
    omega
  ·rw [if_neg hb]
   have ih:=a5F n r (o+1) k (by rw [l9] at h;omega)
   rw [l9];omega
theorem b2j {c:o0}{s:l3}(h:O9 s=true):(u2 c s).length≤80:=by
 have h1:=a7U (syns:=c.Syns) (X3 c s).length (X3 c s)
 have h2:=U0 (g:=S9 c.Stops) (m:=1) (B1 s) (fun w _=>a5e c.Stops w)
 have h3:=a5F s.length s 0 0 (Nat.le_refl _)
 unfold O9 at h
 simp only [l5,decide_eq_true_iff] at h
 have h4:=h.2
 have h5:(X3 c s).length=((B1 s).flatMap (S9 c.Stops)).length:=rfl
 have h6:(B1 s).length=(L7 s 0 0).length:=rfl
 unfold u2;omega
def b2p (c:o0)(docs:List u1)(n:l3):Nat:=(docs.map fun d=>(u2 c (C3 d n)).length).sum
def atS (s:A2)(n t:l3)(id:Int):List Int:=((R5 s n t).find? fun p=>p.Doc==id).elim [] (·.At)
def L0 (c:o0)(s:A2)(n t:l3)(id:Int):Nat:=if (atS s n t id).length=0 then 0 else b2Z (atS s n t id).length (Q6 c s.Docs n id) (b2p c s.Docs n) s.Docs.length (R5 s n t).length
theorem b3J {c:o0}{d:u1}(n t:l3):(T0 c d n t).length≤(u2 c (C3 d n)).length:=by
 have:=U0 (g:=fun x:w8=>if x.Text==t then [x.At] else []) (m:=1) (u2 c (C3 d n)) (fun x _=>by split<;>simp)
 unfold T0;omega
theorem b2x {c:o0}{docs:List u1}{n t:l3}{id:Int}(h:(atS (X4 c docs) n t id).length≠0): ∃d∈docs,d.Id=id∧atS (X4 c docs) n t id=T0 c d n t:=by
 unfold atS at h ⊢
 rw [a4u] at h ⊢
 cases hf:(docs.flatMap (I2 c n t)).find? fun p=>p.Doc==id with
 | none=>rw [hf] at h;exact absurd rfl h
 | some p=>
  have hm:=List.mem_of_find?_eq_some hf
  have he:=eq_of_beq (List.find?_some (p:=fun p:D1=>p.Doc==id) hf)
  obtain⟨d,hd,hp⟩:=List.mem_flatMap.1 hm
  unfold I2 at hp
  split at hp
  ·rcases List.mem_singleton.1 hp with rfl
   exact⟨d,hd,he,rfl⟩
  ·cases hp
theorem b6a (c:o0)(n t:l3): ∀docs:List u1,(docs.flatMap (I2 c n t)).length≤docs.length:=fun docs=>by
 have:=U0 (g:=I2 c n t) (m:=1) docs (fun d _=>a60 c n t d)
 omega
theorem a7N {docs:List u1}(hp:docs.Pairwise fun a b=>a.Id<b.Id){d:u1}(hd:d∈docs):docs.find? (fun e=>e.Id==d.Id)=some d:=by
 induction docs with
 | nil=>cases hd
 | cons e r ih=>
  have hc:=List.pairwise_cons.1 hp
  rw [List.find?_cons]
  rcases List.mem_cons.1 hd with rfl | hd
  ·rw [beq_self_eq_true]
  ·have:=hc.1 d hd
   rw [beq_eq_false_iff_ne.2 (by omega)]
   exact ih hc.2 hd
theorem b3B {α:Type}(w:α→Nat){x:α}: ∀{l:List α},x∈l→w x≤(l.map w).sum
 | y::l,h=>by
  rw [List.map_cons,List.sum_cons]
  rcases List.mem_cons.1 h with rfl | h
  ·omega
  ·have:=b3B w h;omega
theorem a8Z {c:o0}{docs:List u1}(hd:T3 docs=true){n t:l3}{id:Int}(h:(atS (X4 c docs) n t id).length≠0):a17 (atS (X4 c docs) n t id).length (Q6 c docs n id) (b2p c docs n) docs.length (R5 (X4 c docs) n t).length:=by
 obtain⟨d,hm,hid,hat⟩:=b2x h
 obtain⟨i1,i2,i3⟩:=a1S hd
 have hdoc:=(a1R hd).2
 have h80: ∀e∈docs,(u2 c (C3 e n)).length≤80:=fun e he=>b2j (a3C (hdoc e he) n)
 have hfl:Q6 c docs n id=(u2 c (C3 d n)).length:=by
  unfold Q6
  rw [←hid,a7N i3 hm];rfl
 have h1:=b3J (c:=c) (d:=d) n t
 have h2:=h80 d hm
 have h3:(u2 c (C3 d n)).length≤b2p c docs n:=b3B (fun d=>(u2 c (C3 d n)).length) hm
 have h4:b2p c docs n≤docs.length*80:=b0Z docs h80
 have h5:=List.length_pos_of_mem hm
 have h6:=b6a c n t docs
 have h7:0<(R5 (X4 c docs) n t).length:=by
  unfold atS at h
  cases hf:(R5 (X4 c docs) n t).find? fun p=>p.Doc==id with
  | none=>rw [hf] at h;exact absurd rfl h
  | some p=>exact List.length_pos_of_mem (List.mem_of_find?_eq_some hf)
 rw [a4u] at h7 ⊢
 rw [hat] at h ⊢
 rw [hfl]
 exact⟨⟨by omega,by omega⟩,⟨h1,h2⟩,⟨h3,by omega⟩,⟨by omega,i1⟩,⟨h7,h6⟩⟩
end Go.Fk
set_option linter.unusedVariables false
set_option maxRecDepth 100000
namespace Go.Fk
open Go
theorem b1I (F:Nat)(x:J8)(n t:l3):F4 F x n t=a1r F x.s_ n t:=rfl
theorem b8x (F:Nat)(x:J8)(id:Int):I5 F x id=a0Z F x.s_ id:=rfl
theorem b3y (F:Nat)(x:J8)(c:o0)(n:l3)(id:Int):E4 F x c n id=a0I F x.s_ c n id:=by
 unfold E4 a0I
 rw [b8x]
theorem a9L (F:Nat)(c:o0)(s:A2)(n:l3)(id:Int)(h1:I4 c=true)(h2:T3 s.Docs=true)(hF:2000<F):a0I F s c n id=some (Q6 c s.Docs n id:Int):=by
 unfold a0I Q6
 rw [b1A,a8]
 cases hf:s.Docs.find? fun d=>d.Id==id with
 | none=>rfl
 | some d=>
  have hds:=(a1R h2).2 d (List.mem_of_find?_eq_some hf)
  have:=a7l F h1 hds n hF
  simp only [Option.elim_some,n5,i9]
  rw [a1G,a8] at this ⊢
  rw [this];rfl
theorem a4c (F:Nat)(c:o0)(s:A2)(n t:l3)(id:Int):G1 F ⟨c,s⟩ n t id=some (atS s n t id):=by
 unfold G1 atS
 rw [b1I,a4a,a8]
 rw [a1u (xs:=R5 s n t) (fun p=>p.Doc==id) (fun p=>p.At) (fun i x hx=>by
  rw [l8,hx,a8];cases x.Doc==id<;>rfl)]
 cases (R5 s n t).find? (fun p=>p.Doc==id)<;>rfl
theorem b5Z {c:o0}{docs:List u1}(hd:T3 docs=true)(n:l3){d:u1}(hm:d∈docs):Q6 c docs n d.Id=(u2 c (C3 d n)).length:=by
 unfold Q6
 rw [a7N (a1S hd).2.2 hm];rfl
theorem b8J {c:o0}{docs:List u1}(hd:T3 docs=true)(n:l3)(id:Int):Q6 c docs n id≤80:=by
 unfold Q6
 cases hf:docs.find? fun d=>d.Id==id with
 | none=>exact Nat.zero_le _
 | some d=>exact b2j (a3C ((a1R hd).2 d (List.mem_of_find?_eq_some hf)) n)
theorem b6F {c:o0}{docs:List u1}(hd:T3 docs=true)(n:l3)(i:Nat):((docs.take i).map fun d=>(u2 c (C3 d n)).length).sum≤16*80:=by
 have h1:=b0Z (w:=fun d=>(u2 c (C3 d n)).length) (B:=80) (docs.take i) (fun d hm=>by
  have:=b8J (c:=c) hd n d.Id
  rw [b5Z hd n (List.mem_of_mem_take hm)] at this
  exact this)
 have h2:=(a1S hd).1
 have h3:(docs.take i).length≤docs.length:=by rw [List.length_take];omega
 exact Nat.le_trans h1 (Nat.mul_le_mul_right _ (by omega))
theorem b2L (F:Nat)(c:o0)(docs:List u1)(n:l3)(hd:T3 docs=true){f:Nat→Int→Option Int}(h: ∀(i:Nat) d (s:Int),docs[i]? =some d→f i s=some (y8 (s+(Q6 c docs n d.Id:Int)))):O6 f docs.length 0 (0:Int)=some ((b2p c docs n:Nat):Int):=by
 obtain⟨t,ht,hp⟩:=a2g (σ:=Int) (f:=f) (fun i s=>s=((((docs.take i).map fun d=>(u2 c (C3 d n)).length).sum:Nat):Int)) docs.length (fun i s hi hs=>by
  have hb:=b6F (c:=c) hd n (i+1)
  refine⟨_,h i docs[i] s (i6 hi),?_⟩
  rw [b5Z hd n (List.getElem_mem hi),hs]
  rw [List.take_succ_eq_append_getElem hi,List.map_append,List.sum_append] at hb ⊢
  simp only [List.map_cons,List.map_nil,List.sum_cons,List.sum_nil,Nat.add_zero] at hb ⊢
  exact b01 (by omega)) docs.length 0 0 (by omega) (by simp)
 rw [ht,hp,List.take_length];rfl
theorem a4e (F:Nat)(c:o0)(s:A2)(n t:l3)(id:Int)(ho:P5 c s=true)(hF:1000000000<F):F1 F ⟨c,s⟩ n t id=some (L0 c s n t id:Int):=by
 obtain⟨h1,h2,h3⟩:=a3K ho
 unfold F1 L0
 rw [a4c,a8]
 by_cases h0:(atS s n t id).length=0
 ·rw [if_pos h0,beq_iff_eq.2 (by omega)];rfl
 ·rw [if_neg h0,beq_eq_false_iff_ne.2 (by omega),i9]
  dsimp only
  rw [b2L F c s.Docs n h2 (fun i d a hx=>by
   rw [l8,hx,a8,b3y,a9L F c s n d.Id h1 h2 (by omega),a8]),a8,a8,b3y,a9L F c s n id h1 h2 (by omega),a8,b1I,a4a,a8]
  have hs:a17 (atS s n t id).length (Q6 c s.Docs n id) (b2p c s.Docs n) s.Docs.length (R5 s n t).length:=by
   have:=a8Z (c:=c) h2 (n:=n) (t:=t) (id:=id)
   rw [←h3] at this
   exact this h0
  have hu:=b6J hs
  have hd:=b0i hs
  rw [b4F F _ _ _ _ _ hs hF,a8,a8]
  dsimp only
  rw [b2H F _ _ (by omega) ⟨hd.1,by omega⟩ hF];rfl
theorem a3h (c:o0)(s:A2)(n t:l3)(id:Int)(ho:P5 c s=true):L0 c s n t id≤1000000000:=by
 obtain⟨h1,h2,h3⟩:=a3K ho
 unfold L0
 split
 ·omega
 ·rename_i h0
  have hs:a17 (atS s n t id).length (Q6 c s.Docs n id) (b2p c s.Docs n) s.Docs.length (R5 s n t).length:=by
   have:=a8Z (c:=c) h2 (n:=n) (t:=t) (id:=id)
   rw [←h3] at this
   exact this h0
  have hu:=b6J hs
  unfold b2Z a9S
  have a1:upN (atS s n t id).length s.Docs.length (R5 s n t).length/Nat.gcd (upN (atS s n t id).length s.Docs.length (R5 s n t).length) (a47 (atS s n t id).length (Q6 c s.Docs n id) (b2p c s.Docs n) s.Docs.length)≤upN (atS s n t id).length s.Docs.length (R5 s n t).length:=Nat.div_le_self _ _
  refine Nat.le_trans (Nat.div_le_self _ _) ?_
  omega
end Go.Fk
