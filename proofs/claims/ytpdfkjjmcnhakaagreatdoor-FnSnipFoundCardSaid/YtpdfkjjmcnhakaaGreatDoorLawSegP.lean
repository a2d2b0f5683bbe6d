import Derived.Test.YtpdfkjjmcnhakaaGreatDoorLawDrs
/-
  A document's field. Of no program.
-/
set_option linter.unusedVariables false
namespace Go.Fk
open Go
theorem a1G (F:Nat)(d:u1)(n:l3):H6 F d n=some (if a1Q d then C3 d n else []):=by
 unfold H6 C3
 rw [a8n,a8]
 cases a1Q d
 ·rfl
 rw [j6,if_pos rfl,a1u (xs:=d.Fields) (fun f=>f.Name==n) (fun f=>f.Text) (fun i x hx=>?_)]
 ·cases d.Fields.find? fun f=>f.Name==n<;>rfl
 ·rw [l8,hx,a8,M0]
  cases x.Name==n<;>rfl
theorem a3C {d:u1}(h:a1Q d=true)(n:l3):O9 (C3 d n)=true:=by
 unfold C3
 cases hf:d.Fields.find? fun f=>f.Name==n with
 | none=>rfl
 | some f=>exact(a21 h (List.mem_of_find?_eq_some hf)).2
end Go.Fk
set_option linter.unusedVariables false
namespace Go.Fk
open Go
theorem b1A (F:Nat)(s:A2)(id:Int):a0Z F s id=some ((s.Docs.find? fun d=>d.Id==id).elim (u1.mk 0 [] [],false) fun d=>(d,true)):=by
 unfold a0Z
 rw [a1u (xs:=s.Docs) (fun d=>d.Id==id) (fun d=>(d,true)) (fun i x hx=>?_)]
 ·cases s.Docs.find? fun d=>d.Id==id<;>rfl
 ·rw [l8,hx,a8,M0]
  cases x.Id==id<;>rfl
def Q6 (c:o0)(docs:List u1)(n:l3)(id:Int):Nat:=(docs.find? fun d=>d.Id==id).elim 0 fun d=>(u2 c (C3 d n)).length
theorem a7l (F:Nat){c:o0}{d:u1}(hc:I4 c=true)(hd:a1Q d=true)(n:l3)(hF:2000<F):(Option.bind (H6 F d n) fun r=>G0 F c r)=some (u2 c (C3 d n)):=by
 have h1:=a3x hc
 have h2:=a3C hd n
 have h3:=a6n h2
 rw [a1G,hd,if_pos rfl,a8,a2o F c _ (by omega) (by omega) (by omega),hc,h2];rfl
theorem b0Z {α:Type}{w:α→Nat}{B:Nat}: ∀l:List α,(∀x∈l,w x≤B)→(l.map w).sum≤l.length*B
 | [],_=>by simp
 | x::l,h=>by
  have h1:=h x (by simp)
  have h2:=b0Z l fun y hy=>h y (by simp [hy])
  rw [List.map_cons,List.sum_cons,l9,Nat.add_mul];omega
end Go.Fk
set_option linter.unusedVariables false
namespace Go.Fk
open Go
theorem b1j {c:o0}{docs:List u1}{e:v8}(he:e∈(X4 c docs).Entries):0<e.Posts.length:=by
 unfold X4 at he
 obtain⟨n,_,hm⟩:=List.mem_flatMap.1 he
 obtain⟨t,ht,rfl⟩:=List.mem_map.1 hm
 obtain⟨d,hd,x,hx,rfl⟩:=a3G.1 ht
 have hmem:x.At∈T0 c d n x.Text:=List.mem_flatMap.2 ⟨x,hx,by simp⟩
 have hpos:0<(T0 c d n x.Text).length:=List.length_pos_of_mem hmem
 have:(⟨d.Id,T0 c d n x.Text⟩:D1)∈(P6 c docs n x.Text).Posts:=List.mem_flatMap.2 ⟨d,hd,by unfold I2;rw [b8 hpos,if_pos rfl];simp⟩
 exact List.length_pos_of_mem this
theorem b5O {c:o0}{docs:List u1}{n t:l3}:P6 c docs n t∈(X4 c docs).Entries↔n∈a07 docs∧t∈Q7 c docs n:=by
 unfold X4
 constructor
 ·intro h
  obtain⟨m,hm,h⟩:=List.mem_flatMap.1 h
  obtain⟨u,hu,e⟩:=List.mem_map.1 h
  have e1:m=n:=congrArg v8.Field e
  have e2:u=t:=congrArg v8.Term e
  subst e1;subst e2
  exact⟨hm,hu⟩
 ·rintro⟨h1,h2⟩
  exact List.mem_flatMap.2 ⟨n,h1,List.mem_map.2 ⟨t,h2,rfl⟩⟩
theorem b3A {c:o0}{docs:List u1}{e:v8}(h:e∈(X4 c docs).Entries):e=P6 c docs e.Field e.Term:=by
 unfold X4 at h
 obtain⟨m,hm,h⟩:=List.mem_flatMap.1 h
 obtain⟨u,hu,rfl⟩:=List.mem_map.1 h
 rfl
theorem b7N {c:o0}{docs:List u1}{d:u1}{n:l3}{x:w8}(hd:d∈docs)(hx:x∈u2 c (C3 d n)):n∈a07 docs∧x.Text∈Q7 c docs n:=by
 refine⟨?_,a3G.2 ⟨d,hd,x,hx,rfl⟩⟩
 unfold C3 at hx
 cases hf:d.Fields.find? fun f=>f.Name==n with
 | none=>rw [hf,Option.elim_none,a4U] at hx;cases hx
 | some f=>exact a9R.2 ⟨d,hd,f,List.mem_of_find?_eq_some hf,eq_of_beq (List.find?_some (p:=fun f:I3=>f.Name==n) hf)⟩
def R5 (s:A2)(n t:l3):List D1:=(s.Entries.find? (a3E n t)).elim [] (·.Posts)
theorem a4a (F:Nat)(s:A2)(n t:l3):a1r F s n t=some (R5 s n t):=by
 unfold a1r R5
 rw [a1u (xs:=s.Entries) (a3E n t) (fun e=>e.Posts) (fun i x hx=>?_)]
 ·cases s.Entries.find? (a3E n t)<;>rfl
 ·rw [l8,hx,a8]
  unfold a3E
  rw [M0]
  cases x.Field==n
  ·rfl
  ·cases x.Term==t<;>rfl
theorem a4u (c:o0)(docs:List u1)(n t:l3):R5 (X4 c docs) n t=docs.flatMap (I2 c n t):=by
 unfold R5
 cases hf:(X4 c docs).Entries.find? (a3E n t) with
 | some e=>
  have hm:=List.mem_of_find?_eq_some hf
  have hk:=List.find?_some (p:=a3E n t) hf
  unfold a3E at hk
  rw [l5] at hk
  have e1:=eq_of_beq hk.1
  have e2:=eq_of_beq hk.2
  have:=b3A hm
  rw [this,e1,e2];rfl
 | none=>
  have hno: ∀d∈docs,I2 c n t d=[]:=fun d hd=>by
   cases hp:I2 c n t d with
   | nil=>rfl
   | cons p ps=>
    unfold I2 at hp
    split at hp
    ·rename_i h0
     have h0:=of_decide_eq_true h0
     obtain⟨a,ha⟩:=List.exists_mem_of_length_pos h0
     unfold T0 at ha
     obtain⟨x,hx,hxa⟩:=List.mem_flatMap.1 ha
     have ht:x.Text=t:=by
      split at hxa
      ·rename_i k;exact eq_of_beq k
      ·cases hxa
     obtain⟨k1,k2⟩:=b7N (c:=c) hd hx
     rw [ht] at k2
     have:=List.find?_eq_none.1 hf _ (b5O.2 ⟨k1,k2⟩)
     exact absurd (show a3E n t (P6 c docs n t)=true by unfold a3E P6;simp) this
    ·cases hp
  show []=_
  rw [List.flatMap_eq_nil_iff.2 hno]
end Go.Fk
set_option linter.unusedVariables false
namespace Go.Fk
open Go
end Go.Fk
