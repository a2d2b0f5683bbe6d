import Derived.Test.YtpdfkjjmcnhakaaGreatDoorLawSeg
/-
  The segment by putting one term after the other: entries in the order of their first term. Of no program.
-/
set_option linter.unusedVariables false
namespace Go.Fk
open Go
abbrev Occ:=(l3×l3)×(Int×Int)
def K5 (ps:List D1)(id:Int)(at_:Int):List D1:=
 match (if H3 ps id then ps++[D1.mk id []] else ps).getLast? with
 | none=>[]
 | some p=>(if H3 ps id then ps++[D1.mk id []] else ps).dropLast++[D1.mk p.Doc (p.At++[at_])]
def a3i (o:Occ):List v8→List v8
 | []=>[⟨o.1.1,o.1.2,K5 [] o.2.1 o.2.2⟩]
 | e::r=>if e.Field==o.1.1&&e.Term==o.1.2 then ⟨e.Field,e.Term,K5 e.Posts o.2.1 o.2.2⟩::r else e::a3i o r
def a1s (k:l3×l3):List (l3×l3)→List (l3×l3)
 | []=>[k]
 | x::r=>if x==k then x::r else x::a1s k r
def O7 (os:List Occ):List (l3×l3):=os.foldl (fun ks o=>a1s o.1 ks) []
def a7Q (l:List (Int×Int)):List D1:=l.foldl (fun ps q=>K5 ps q.1 q.2) []
def mkE (os:List Occ)(k:l3×l3):v8:=⟨k.1,k.2,a7Q ((os.filter fun o=>o.1==k).map (·.2))⟩
theorem a5u {k x:l3×l3}: ∀{l:List (l3×l3)},x∈a1s k l↔x=k∨x∈l
 | []=>by simp [a1s]
 | a::l=>by
  unfold a1s
  split
  ·rename_i h
   have:=eq_of_beq h
   subst this
   rw [List.mem_cons]
   constructor
   ·rintro (h | h)<;>simp [h]
   ·rintro (h | h | h)<;>simp [h]
  ·rw [List.mem_cons,a5u (l:=l),List.mem_cons]
   constructor
   ·rintro (h1 | h1 | h1)<;>simp [h1]
   ·rintro (h1 | h1 | h1)<;>simp [h1]
theorem a5M {k:l3×l3}: ∀{l:List (l3×l3)},l.Nodup→(a1s k l).Nodup
 | [],_=>by simp [a1s]
 | a::l,h=>by
  have hc:=List.nodup_cons.1 h
  unfold a1s
  split
  ·exact h
  ·rename_i hne
   refine List.nodup_cons.2 ⟨fun hm=>?_,a5M hc.2⟩
   rcases a5u.1 hm with e | hm
   ·exact hne (by simp [e])
   ·exact hc.1 hm
theorem a74 {k:l3×l3}: ∀{l:List (l3×l3)},k∉l→a1s k l=l++[k]
 | [],_=>rfl
 | a::l,h=>by
  have h1:(a==k)=false:=beq_eq_false_iff_ne.2 fun e=>h (by simp [e])
  unfold a1s
  rw [h1,if_neg (by simp),a74 (l:=l) (fun hm=>h (by simp [hm]))];rfl
theorem a78 {k:l3×l3}: ∀{l:List (l3×l3)},k∈l→a1s k l=l
 | [],h=>by cases h
 | a::l,h=>by
  unfold a1s
  split
  ·rfl
  ·rename_i hne
   rcases List.mem_cons.1 h with e | h
   ·exact absurd (by simp [e]) hne
   ·rw [a78 h]
theorem a4h (os:List Occ)(o:Occ):O7 (os++[o])=a1s o.1 (O7 os):=by
 unfold O7;rw [List.foldl_append];rfl
theorem a9O: ∀(l pre:List Occ),((O7 pre).Nodup∧∀k,k∈O7 pre↔∃o∈pre,o.1=k)→(O7 (pre++l)).Nodup∧∀k,k∈O7 (pre++l)↔∃o∈pre++l,o.1=k
 | [],pre,h=>by rw [List.append_nil];exact h
 | o::l,pre,⟨h1,h2⟩=>by
  rw [show pre++o::l=(pre++[o])++l by simp]
  refine a9O l (pre++[o]) ⟨?_,fun k=>?_⟩
  ·rw [a4h];exact a5M h1
  ·rw [a4h,a5u,h2]
   constructor
   ·rintro (rfl | ⟨q,hq,e⟩)
    ·exact⟨o,by simp,rfl⟩
    ·exact⟨q,by simp [hq],e⟩
   ·rintro⟨q,hq,e⟩
    rcases List.mem_append.1 hq with hq | hq
    ·exact .inr ⟨q,hq,e⟩
    ·rw [List.mem_singleton] at hq;subst hq;exact .inl e.symm
theorem b0y (os:List Occ):(O7 os).Nodup∧∀k,k∈O7 os↔∃o∈os,o.1=k:=by
 have:=a9O os [] ⟨List.nodup_nil,by simp [O7]⟩
 simpa using this
theorem a4i (os:List Occ)(o:Occ)(k:l3×l3):mkE (os++[o]) k=if o.1==k then ⟨k.1,k.2,K5 (mkE os k).Posts o.2.1 o.2.2⟩ else mkE os k:=by
 unfold mkE
 rw [List.filter_append]
 cases h:o.1==k
 ·rw [List.filter_cons,h];simp
 ·rw [List.filter_cons,h];simp [a7Q,List.foldl_append]
theorem b3O {os:List Occ}{o:Occ}: ∀{ks:List (l3×l3)},ks.Nodup→o.1∈ks→a3i o (ks.map (mkE os))=ks.map (mkE (os++[o]))
 | [],_,h=>by cases h
 | k::ks,hn,h=>by
  have hc:=List.nodup_cons.1 hn
  have hpick:((mkE os k).Field==o.1.1&&(mkE os k).Term==o.1.2)=(k==o.1):=rfl
  rw [List.map_cons,List.map_cons,a3i,hpick]
  by_cases he:k=o.1
  ·subst he
   rw [beq_self_eq_true,if_pos rfl,a4i,beq_self_eq_true,if_pos rfl]
   congr 1
   refine List.map_congr_left fun x hx=>?_
   have:(o.1==x)=false:=beq_eq_false_iff_ne.2 fun e=>hc.1 (e▸hx)
   rw [a4i,this,if_neg (by simp)]
  ·have h1:(k==o.1)=false:=beq_eq_false_iff_ne.2 he
   have h2:(o.1==k)=false:=beq_eq_false_iff_ne.2 fun e=>he e.symm
   rw [h1,if_neg (by simp),a4i,h2,if_neg (by simp)]
   congr 1
   rcases List.mem_cons.1 h with e | h
   ·exact absurd e.symm he
   ·exact b3O hc.2 h
theorem b3M {o:Occ}: ∀{es:List v8},(∀e∈es,(e.Field==o.1.1&&e.Term==o.1.2)=false)→a3i o es=es++[⟨o.1.1,o.1.2,K5 [] o.2.1 o.2.2⟩]
 | [],_=>rfl
 | e::es,h=>by
  rw [a3i,h e (by simp),if_neg (by simp),b3M (fun e he=>h e (by simp [he]))];rfl
theorem b7w {os:List Occ}{o:Occ}{ks:List (l3×l3)}(h:o.1∉ks)(hos: ∀q∈os,q.1∈ks):a3i o (ks.map (mkE os))=(ks++[o.1]).map (mkE (os++[o])):=by
 rw [b3M (fun e he=>?_),List.map_append]
 ·congr 1
  ·refine List.map_congr_left fun x hx=>?_
   have:(o.1==x)=false:=beq_eq_false_iff_ne.2 fun e=>h (e▸hx)
   rw [a4i,this,if_neg (by simp)]
  ·rw [List.map_singleton,a4i,beq_self_eq_true,if_pos rfl]
   have:os.filter (fun q=>q.1==o.1)=[]:=List.filter_eq_nil_iff.2 fun q hq e=>h (by have:=eq_of_beq e;rw [←this];exact hos q hq)
   simp [mkE,this,a7Q]
 ·obtain⟨k,hk,rfl⟩:=List.mem_map.1 he
  show (k==o.1)=false
  exact beq_eq_false_iff_ne.2 fun e=>h (e▸hk)
theorem b1L: ∀(l pre:List Occ),l.foldl (fun es o=>a3i o es) ((O7 pre).map (mkE pre))=(O7 (pre++l)).map (mkE (pre++l))
 | [],pre=>by rw [List.append_nil];rfl
 | o::l,pre=>by
  have hk:=b0y pre
  have hst:a3i o ((O7 pre).map (mkE pre))=(O7 (pre++[o])).map (mkE (pre++[o])):=by
   rw [a4h]
   by_cases h:o.1∈O7 pre
   ·rw [a78 h,b3O hk.1 h]
   ·rw [a74 h,b7w h fun q hq=>(hk.2 _).2 ⟨q,hq,rfl⟩]
  rw [List.foldl_cons,hst,b1L l (pre++[o]),show pre++[o]++l=pre++o::l by simp]
theorem b1K (os:List Occ):os.foldl (fun es o=>a3i o es) []=(O7 os).map (mkE os):=by
 have:=b1L os []
 simpa [O7] using this
end Go.Fk
set_option linter.unusedVariables false
namespace Go.Fk
open Go
theorem a4U (c:o0):u2 c []=[]:=by
 have h:=W6 c []
 exact List.eq_nil_of_length_eq_zero (by simp at h;simp [h])
theorem a8k {α:Type}(h:α→l3){x:l3}: ∀(l:List α) (a:List l3),x∈l.foldl (fun a y=>a1V (h y) a) a↔x∈a∨∃y∈l,h y=x
 | [],a=>by simp
 | y::r,a=>by
  rw [List.foldl_cons,a8k h r,a8w]
  constructor
  ·rintro ((rfl | h1) | ⟨z,hz,e⟩)
   ·exact .inr ⟨y,by simp,rfl⟩
   ·exact .inl h1
   ·exact .inr ⟨z,by simp [hz],e⟩
  ·rintro (h1 | ⟨z,hz,e⟩)
   ·exact .inl (.inr h1)
   ·rcases List.mem_cons.1 hz with rfl | hz
    ·exact .inl (.inl e.symm)
    ·exact .inr ⟨z,hz,e⟩
theorem a36 {α:Type}(h:α→l3): ∀(l:List α) (a:List l3),a30 a→a30 (l.foldl (fun a y=>a1V (h y) a) a)
 | [],a,ha=>ha
 | y::r,a,ha=>by rw [List.foldl_cons];exact a36 h r _ (a65 ha)
theorem a6D (n:l3): ∀(docs:List u1) (a:List l3),(a30 a→a30 (docs.foldl (fun a d=>d.Fields.foldl (fun a f=>a1V f.Name a) a) a))∧(n∈docs.foldl (fun a d=>d.Fields.foldl (fun a f=>a1V f.Name a) a) a↔n∈a∨∃d∈docs,∃f∈d.Fields,f.Name=n)
 | [],a=>by simp
 | d::r,a=>by
  have ih:=a6D n r (d.Fields.foldl (fun a f=>a1V f.Name a) a)
  rw [List.foldl_cons]
  refine⟨fun h=>ih.1 (a36 (fun f:I3=>f.Name) _ _ h),?_⟩
  rw [ih.2,a8k (fun f:I3=>f.Name)]
  constructor
  ·rintro ((h | h) | ⟨e,he,h⟩)
   ·exact .inl h
   ·exact .inr ⟨d,by simp,h⟩
   ·exact .inr ⟨e,by simp [he],h⟩
  ·rintro (h | ⟨e,he,h⟩)
   ·exact .inl (.inl h)
   ·rcases List.mem_cons.1 he with rfl | he
    ·exact .inl (.inr h)
    ·exact .inr ⟨e,he,h⟩
theorem a9R {docs:List u1}{n:l3}:n∈a07 docs↔∃d∈docs,∃f∈d.Fields,f.Name=n:=by
 have:=(a6D n docs []).2
 simpa [a07] using this
theorem b0B (docs:List u1):a30 (a07 docs):=(a6D [] docs []).1 List.Pairwise.nil
theorem a5r (c:o0)(n t:l3): ∀(docs:List u1) (a:List l3),(a30 a→a30 (docs.foldl (fun a d=>a5g a (u2 c (C3 d n))) a))∧(t∈docs.foldl (fun a d=>a5g a (u2 c (C3 d n))) a↔t∈a∨∃d∈docs,∃x∈u2 c (C3 d n),x.Text=t)
 | [],a=>by simp
 | d::r,a=>by
  have ih:=a5r c n t r (a5g a (u2 c (C3 d n)))
  rw [List.foldl_cons]
  refine⟨fun h=>ih.1 (a36 (fun x:w8=>x.Text) _ _ h),?_⟩
  rw [ih.2]
  unfold a5g
  rw [a8k (fun x:w8=>x.Text)]
  constructor
  ·rintro ((h | h) | ⟨e,he,h⟩)
   ·exact .inl h
   ·exact .inr ⟨d,by simp,h⟩
   ·exact .inr ⟨e,by simp [he],h⟩
  ·rintro (h | ⟨e,he,h⟩)
   ·exact .inl (.inl h)
   ·rcases List.mem_cons.1 he with rfl | he
    ·exact .inl (.inr h)
    ·exact .inr ⟨e,he,h⟩
theorem a3G {c:o0}{docs:List u1}{n t:l3}:t∈Q7 c docs n↔∃d∈docs,∃x∈u2 c (C3 d n),x.Text=t:=by
 have:=(a5r c n t docs []).2
 simpa [Q7] using this
theorem a9l (c:o0)(docs:List u1)(n:l3):a30 (Q7 c docs n):=(a5r c n [] docs []).1 List.Pairwise.nil
theorem a6Y {ps:List D1}{id a:Int}(h:H3 ps id=true):K5 ps id a=ps++[D1.mk id [a]]:=by
 unfold K5
 rw [h];simp
theorem b0c {ps:List D1}{id a:Int}{as':List Int}:K5 (ps++[D1.mk id as']) id a=ps++[D1.mk id (as'++[a])]:=by
 have:H3 (ps++[D1.mk id as']) id=false:=by simp [H3]
 unfold K5
 rw [this];simp
theorem a9Y {ps:List D1}{id:Int}: ∀(l as':List Int),(l.map fun a=>(id,a)).foldl (fun ps q=>K5 ps q.1 q.2) (ps++[D1.mk id as'])=ps++[D1.mk id (as'++l)]
 | [],as'=>by simp
 | a::l,as'=>by rw [List.map_cons,List.foldl_cons,b0c,a9Y l,List.append_assoc];rfl
theorem b2V {ps:List D1}{id:Int}{l:List Int}(h:H3 ps id=true):(l.map fun a=>(id,a)).foldl (fun ps q=>K5 ps q.1 q.2) ps=ps++(if decide (0<l.length) then [D1.mk id l] else []):=by
 cases l with
 | nil=>simp
 | cons a l=>rw [List.map_cons,List.foldl_cons,a6Y h,a9Y];simp
theorem b7o {ps:List D1}{id:Int}(h: ∀p∈ps,p.Doc≠id):H3 ps id=true:=by
 unfold H3
 split
 ·rfl
 ·rename_i p hp
  have:=h p (List.mem_of_getLast? hp)
  simp [this]
theorem a8M (c:o0)(n t:l3): ∀(docs:List u1) (ps:List D1),(docs.Pairwise fun a b=>a.Id<b.Id)→(∀p∈ps,∀d∈docs,p.Doc<d.Id)→
  (docs.flatMap fun d=>(T0 c d n t).map fun a=>(d.Id,a)).foldl (fun ps q=>K5 ps q.1 q.2) ps=ps++docs.flatMap (I2 c n t)
 | [],ps,_,_=>by simp
 | d::r,ps,hd,hp=>by
  have hc:=List.pairwise_cons.1 hd
  rw [List.flatMap_cons,List.flatMap_cons,List.foldl_append,b2V (b7o fun p hm=>by have:=hp p hm d (by simp);omega),a8M c n t r _ hc.2 (fun p hm e he=>?_),List.append_assoc]
  ·rfl
  ·rcases List.mem_append.1 hm with hm | hm
   ·exact hp p hm e (by simp [he])
   ·split at hm
    ·rw [List.mem_singleton] at hm;subst hm;exact hc.1 e he
    ·cases hm
def a0D (c:o0)(id:Int)(f:I3):List Occ:=(u2 c f.Text).map fun x=>((f.Name,x.Text),(id,x.At))
def a3y (c:o0)(d:u1):List Occ:=d.Fields.flatMap (a0D c d.Id)
def a1Y (c:o0)(docs:List u1):List Occ:=docs.flatMap (a3y c)
theorem b4N (c:o0)(id:Int)(f:I3)(n t:l3):((a0D c id f).filter fun o=>o.1==(n,t)).map (·.2)=if f.Name==n then ((u2 c f.Text).flatMap fun x=>if x.Text==t then [x.At] else []).map fun a=>(id,a) else []:=by
 unfold a0D
 generalize u2 c f.Text=l
 have hk: ∀x:w8,(((f.Name,x.Text):l3×l3)==(n,t))=(f.Name==n&&x.Text==t):=fun _=>rfl
 cases h:f.Name==n
 ·rw [if_neg (by simp),List.filter_eq_nil_iff.2 fun o ho e=>?_]
  ·rfl
  ·obtain⟨x,_,rfl⟩:=List.mem_map.1 ho
   have e':=(hk x).symm.trans e
   rw [h] at e';cases e'
 ·rw [if_pos rfl]
  induction l with
  | nil=>rfl
  | cons x r ih=>
   rw [List.map_cons,List.filter_cons,List.flatMap_cons,hk,h,n8,List.map_append,←ih]
   cases x.Text==t<;>rfl
theorem a8x (c:o0)(id:Int)(n t:l3): ∀(l:List I3),(l.Pairwise fun f g=>f.Name≠g.Name)→(((l.flatMap (a0D c id)).filter fun o=>o.1==(n,t)).map (·.2))=((u2 c ((l.find? fun f=>f.Name==n).elim [] (·.Text))).flatMap fun x=>if x.Text==t then [x.At] else []).map fun a=>(id,a)
 | [],_=>by simp [a4U]
 | f::r,h=>by
  have hc:=List.pairwise_cons.1 h
  have ih:=a8x c id n t r hc.2
  rw [List.flatMap_cons,List.filter_append,List.map_append,b4N,List.find?_cons]
  cases hn:f.Name==n
  ·rw [if_neg (by simp),List.nil_append,ih]
  ·have he:=eq_of_beq hn
   have hnone:r.find? (fun g=>g.Name==n)=none:=List.find?_eq_none.2 fun g hg e=>hc.1 g hg (he.trans (eq_of_beq e).symm)
   rw [if_pos rfl,ih,hnone]
   simp [a4U]
theorem b3F (c:o0)(n t:l3): ∀(docs:List u1),(∀d∈docs,d.Fields.Pairwise fun f g=>f.Name≠g.Name)→((a1Y c docs).filter fun o=>o.1==(n,t)).map (·.2)=docs.flatMap fun d=>(T0 c d n t).map fun a=>(d.Id,a)
 | [],_=>by simp [a1Y]
 | d::r,h=>by
  have ih:=b3F c n t r fun e he=>h e (by simp [he])
  unfold a1Y at ih ⊢
  rw [List.flatMap_cons,List.filter_append,List.map_append,ih,List.flatMap_cons]
  congr 1
  exact a8x c d.Id n t d.Fields (h d (by simp))
structure a7Z (docs:List u1):Prop where
 ids:docs.Pairwise fun a b=>a.Id<b.Id
 names: ∀d∈docs,d.Fields.Pairwise fun f g=>f.Name≠g.Name
theorem a9T {c:o0}{docs:List u1}(h:a7Z docs)(n t:l3):mkE (a1Y c docs) (n,t)=P6 c docs n t:=by
 unfold mkE P6 a7Q
 rw [b3F c n t docs h.names]
 have:=a8M c n t docs [] h.ids (by simp)
 rw [List.nil_append] at this
 simp only [this]
theorem a8v {c:o0}{d:u1}{o:Occ}:o∈a3y c d↔∃f∈d.Fields,∃x∈u2 c f.Text,o=((f.Name,x.Text),(d.Id,x.At)):=by
 unfold a3y a0D
 simp only [List.mem_flatMap,List.mem_map,eq_comm]
theorem b5R {d:u1}(h:d.Fields.Pairwise fun f g=>f.Name≠g.Name){f:I3}(hf:f∈d.Fields):C3 d f.Name=f.Text:=by
 have gen: ∀l:List I3,(l.Pairwise fun f g=>f.Name≠g.Name)→f∈l→(l.find? fun g=>g.Name==f.Name).elim [] (·.Text)=f.Text:=by
  intro l
  induction l with
  | nil=>intro _ h;cases h
  | cons g r ih=>
   intro hp hm
   have hc:=List.pairwise_cons.1 hp
   rw [List.find?_cons]
   rcases List.mem_cons.1 hm with rfl | hm
   ·rw [beq_self_eq_true];rfl
   ·have:(g.Name==f.Name)=false:=beq_eq_false_iff_ne.2 (hc.1 f hm)
    rw [this];exact ih hc.2 hm
 exact gen d.Fields h hf
theorem b1G {c:o0}{docs:List u1}(h:a7Z docs)(e:v8):e∈(X4 c docs).Entries↔e∈(O7 (a1Y c docs)).map (mkE (a1Y c docs)):=by
 unfold X4
 rw [List.mem_flatMap,List.mem_map]
 have hk:=(b0y (a1Y c docs)).2
 constructor
 ·rintro⟨n,hn,hm⟩
  obtain⟨t,ht,rfl⟩:=List.mem_map.1 hm
  refine⟨(n,t),(hk _).2 ?_,a9T h n t⟩
  obtain⟨d,hd,x,hx,rfl⟩:=a3G.1 ht
  unfold C3 at hx
  cases hf:d.Fields.find? fun f=>f.Name==n with
  | none=>
   rw [hf] at hx
   rw [Option.elim_none,a4U] at hx;cases hx
  | some f=>
   rw [hf] at hx
   have hfn:=List.find?_some hf
   exact⟨((f.Name,x.Text),(d.Id,x.At)),List.mem_flatMap.2 ⟨d,hd,a8v.2 ⟨f,List.mem_of_find?_eq_some hf,x,hx,rfl⟩⟩,by rw [eq_of_beq hfn]⟩
 ·rintro⟨⟨n,t⟩,hkm,rfl⟩
  obtain⟨o,ho,hok⟩:=(hk _).1 hkm
  obtain⟨d,hd,hod⟩:=List.mem_flatMap.1 ho
  obtain⟨f,hf,x,hx,rfl⟩:=a8v.1 hod
  cases hok
  refine⟨f.Name,a9R.2 ⟨d,hd,f,hf,rfl⟩,List.mem_map.2 ⟨x.Text,a3G.2 ⟨d,hd,x,?_,rfl⟩,(a9T h _ _).symm⟩⟩
  rw [b5R (h.names d hd) hf];exact hx
def ltE (a b:v8):Bool:=y7 a.Field b.Field||(a.Field==b.Field&&y7 a.Term b.Term)
theorem a2c (a b:v8):ltE a b=true↔y7 a.Field b.Field=true∨(a.Field=b.Field∧y7 a.Term b.Term=true):=by simp [ltE]
theorem b0A (a:v8):ltE a a=false:=by
 rw [Bool.eq_false_iff];intro h
 rcases (a2c a a).1 h with h | ⟨_,h⟩
 ·rw [a2l] at h;cases h
 ·rw [a2l] at h;cases h
theorem b8M {a b c:v8}(h:ltE a b=true)(h':ltE b c=true):ltE a c=true:=by
 rw [a2c] at h h' ⊢
 rcases h with h | ⟨e,h⟩
 ·rcases h' with h' | ⟨e',h'⟩
  ·exact .inl (a3n h h')
  ·exact .inl (e'▸h)
 ·rcases h' with h' | ⟨e',h'⟩
  ·exact .inl (e▸h')
  ·exact .inr ⟨e.trans e',a3n h h'⟩
theorem b8K {a b c:v8}(h:ltE a c=true):ltE a b=true∨ltE b c=true:=by
 rw [a2c] at h ⊢
 rw [a2c]
 rcases h with h | ⟨e,h⟩
 ·rcases b6s (b:=b.Field) h with h1 | h1
  ·exact .inl (.inl h1)
  ·exact .inr (.inl h1)
 ·by_cases e1:a.Field=b.Field
  ·rcases b6s (b:=b.Term) h with h1 | h1
   ·exact .inl (.inr ⟨e1,h1⟩)
   ·exact .inr (.inr ⟨e1▸e,h1⟩)
  ·rcases b13 e1 with h1 | h1
   ·exact .inl (.inl h1)
   ·exact .inr (.inl (e▸h1))
theorem b8L {a b:v8}(h:(a.Field,a.Term)≠(b.Field,b.Term)):ltE a b=true∨ltE b a=true:=by
 rw [a2c,a2c]
 by_cases e:a.Field=b.Field
 ·have:a.Term≠b.Term:=fun e'=>h (by rw [e,e'])
  rcases b13 this with h1 | h1
  ·exact .inl (.inr ⟨e,h1⟩)
  ·exact .inr (.inr ⟨e.symm,h1⟩)
 ·rcases b13 e with h1 | h1
  ·exact .inl (.inl h1)
  ·exact .inr (.inl h1)
theorem a7b (c:o0)(docs:List u1):(X4 c docs).Entries.Pairwise fun a b=>ltE a b=true:=by
 unfold X4
 refine List.pairwise_flatMap.2 ⟨fun n _=>?_,?_⟩
 ·exact List.pairwise_map.2 (List.Pairwise.imp (R:=fun a b=>y7 a b=true) (fun {a b} h=>(a2c (P6 c docs n a) (P6 c docs n b)).2 (.inr ⟨rfl,h⟩)) (a9l c docs n))
 ·refine(b0B docs).imp fun {a b} h x hx y hy=>?_
  obtain⟨t,_,rfl⟩:=List.mem_map.1 hx
  obtain⟨u,_,rfl⟩:=List.mem_map.1 hy
  exact(a2c _ _).2 (.inl h)
theorem a8u (os:List Occ):((O7 os).map (mkE os)).Pairwise fun a b=>ltE a b=true∨ltE b a=true:=
 List.pairwise_map.2 (List.Pairwise.imp (R:=fun a b=>a≠b) (fun {a b} h=>b8L (a:=mkE os a) (b:=mkE os b) h) (b0y os).1)
def a9j (x y:l3):Int:=if y7 x y then -1 else if !(y7 x y||x==y) then 1 else 0
theorem b3m (F:Nat)(x y:l3):I0 F x y=some (a9j x y):=by
 have hn: ∀s,J7 F s=some false:=fun s=>by unfold J7;simp
 unfold I0 a9j
 rw [hn,hn,a8,a8,i9,i9,M0,M0]
 cases y7 x y
 ·cases x==y<;>rfl
 ·rfl
end Go.Fk
