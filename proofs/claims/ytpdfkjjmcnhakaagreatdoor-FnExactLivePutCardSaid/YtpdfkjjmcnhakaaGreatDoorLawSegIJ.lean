import Derived.Test.YtpdfkjjmcnhakaaGreatDoorLawSeg
/-
  The segment by putting one term after the other: entries in the order of their first term. Of no program.
-/
set_option linter.unusedVariables false
namespace Go.Fk
open Go
abbrev Occ:=(Str×Str)×(Int×Int)
def addPost (ps:List GPost)(id:Int)(at_:Int):List GPost:=
 match (if needPost ps id then ps++[GPost.mk id []] else ps).getLast? with
 | none=>[]
 | some p=>(if needPost ps id then ps++[GPost.mk id []] else ps).dropLast++[GPost.mk p.Doc (p.At++[at_])]
def putS (o:Occ):List GEntry→List GEntry
 | []=>[⟨o.1.1,o.1.2,addPost [] o.2.1 o.2.2⟩]
 | e::r=>if e.Field==o.1.1&&e.Term==o.1.2 then ⟨e.Field,e.Term,addPost e.Posts o.2.1 o.2.2⟩::r else e::putS o r
def addKey (k:Str×Str):List (Str×Str)→List (Str×Str)
 | []=>[k]
 | x::r=>if x==k then x::r else x::addKey k r
def keysOf (os:List Occ):List (Str×Str):=os.foldl (fun ks o=>addKey o.1 ks) []
def postsOf (l:List (Int×Int)):List GPost:=l.foldl (fun ps q=>addPost ps q.1 q.2) []
def mkE (os:List Occ)(k:Str×Str):GEntry:=⟨k.1,k.2,postsOf ((os.filter fun o=>o.1==k).map (·.2))⟩
theorem mem_addKey {k x:Str×Str}: ∀{l:List (Str×Str)},x∈addKey k l↔x=k∨x∈l
 | []=>by simp [addKey]
 | a::l=>by
  unfold addKey
  split
  ·rename_i h
   have:=eq_of_beq h
   subst this
   rw [List.mem_cons]
   constructor
   ·rintro (h | h)<;>simp [h]
   ·rintro (h | h | h)<;>simp [h]
  ·rw [List.mem_cons,mem_addKey (l:=l),List.mem_cons]
   constructor
   ·rintro (h1 | h1 | h1)<;>simp [h1]
   ·rintro (h1 | h1 | h1)<;>simp [h1]
theorem addKey_nodup {k:Str×Str}: ∀{l:List (Str×Str)},l.Nodup→(addKey k l).Nodup
 | [],_=>by simp [addKey]
 | a::l,h=>by
  have hc:=List.nodup_cons.1 h
  unfold addKey
  split
  ·exact h
  ·rename_i hne
   refine List.nodup_cons.2 ⟨fun hm=>?_,addKey_nodup hc.2⟩
   rcases mem_addKey.1 hm with e | hm
   ·exact hne (by simp [e])
   ·exact hc.1 hm
theorem addKey_new {k:Str×Str}: ∀{l:List (Str×Str)},k∉l→addKey k l=l++[k]
 | [],_=>rfl
 | a::l,h=>by
  have h1:(a==k)=false:=beq_eq_false_iff_ne.2 fun e=>h (by simp [e])
  unfold addKey
  rw [h1,if_neg (by simp),addKey_new (l:=l) (fun hm=>h (by simp [hm]))];rfl
theorem addKey_old {k:Str×Str}: ∀{l:List (Str×Str)},k∈l→addKey k l=l
 | [],h=>by cases h
 | a::l,h=>by
  unfold addKey
  split
  ·rfl
  ·rename_i hne
   rcases List.mem_cons.1 h with e | h
   ·exact absurd (by simp [e]) hne
   ·rw [addKey_old h]
theorem keysOf_snoc (os:List Occ)(o:Occ):keysOf (os++[o])=addKey o.1 (keysOf os):=by
 unfold keysOf;rw [List.foldl_append];rfl
theorem keys_spec: ∀(l pre:List Occ),((keysOf pre).Nodup∧∀k,k∈keysOf pre↔∃o∈pre,o.1=k)→(keysOf (pre++l)).Nodup∧∀k,k∈keysOf (pre++l)↔∃o∈pre++l,o.1=k
 | [],pre,h=>by rw [List.append_nil];exact h
 | o::l,pre,⟨h1,h2⟩=>by
  rw [show pre++o::l=(pre++[o])++l by simp]
  refine keys_spec l (pre++[o]) ⟨?_,fun k=>?_⟩
  ·rw [keysOf_snoc];exact addKey_nodup h1
  ·rw [keysOf_snoc,mem_addKey,h2]
   constructor
   ·rintro (rfl | ⟨q,hq,e⟩)
    ·exact⟨o,by simp,rfl⟩
    ·exact⟨q,by simp [hq],e⟩
   ·rintro⟨q,hq,e⟩
    rcases List.mem_append.1 hq with hq | hq
    ·exact .inr ⟨q,hq,e⟩
    ·rw [List.mem_singleton] at hq;subst hq;exact .inl e.symm
theorem keys_ok (os:List Occ):(keysOf os).Nodup∧∀k,k∈keysOf os↔∃o∈os,o.1=k:=by
 have:=keys_spec os [] ⟨List.nodup_nil,by simp [keysOf]⟩
 simpa using this
theorem mkE_snoc (os:List Occ)(o:Occ)(k:Str×Str):mkE (os++[o]) k=if o.1==k then ⟨k.1,k.2,addPost (mkE os k).Posts o.2.1 o.2.2⟩ else mkE os k:=by
 unfold mkE
 rw [List.filter_append]
 cases h:o.1==k
 ·rw [List.filter_cons,h];simp
 ·rw [List.filter_cons,h];simp [postsOf,List.foldl_append]
theorem put_old {os:List Occ}{o:Occ}: ∀{ks:List (Str×Str)},ks.Nodup→o.1∈ks→putS o (ks.map (mkE os))=ks.map (mkE (os++[o]))
 | [],_,h=>by cases h
 | k::ks,hn,h=>by
  have hc:=List.nodup_cons.1 hn
  have hpick:((mkE os k).Field==o.1.1&&(mkE os k).Term==o.1.2)=(k==o.1):=rfl
  rw [List.map_cons,List.map_cons,putS,hpick]
  by_cases he:k=o.1
  ·subst he
   rw [beq_self_eq_true,if_pos rfl,mkE_snoc,beq_self_eq_true,if_pos rfl]
   congr 1
   refine List.map_congr_left fun x hx=>?_
   have:(o.1==x)=false:=beq_eq_false_iff_ne.2 fun e=>hc.1 (e▸hx)
   rw [mkE_snoc,this,if_neg (by simp)]
  ·have h1:(k==o.1)=false:=beq_eq_false_iff_ne.2 he
   have h2:(o.1==k)=false:=beq_eq_false_iff_ne.2 fun e=>he e.symm
   rw [h1,if_neg (by simp),mkE_snoc,h2,if_neg (by simp)]
   congr 1
   rcases List.mem_cons.1 h with e | h
   ·exact absurd e.symm he
   ·exact put_old hc.2 h
theorem put_app {o:Occ}: ∀{es:List GEntry},(∀e∈es,(e.Field==o.1.1&&e.Term==o.1.2)=false)→putS o es=es++[⟨o.1.1,o.1.2,addPost [] o.2.1 o.2.2⟩]
 | [],_=>rfl
 | e::es,h=>by
  rw [putS,h e (by simp),if_neg (by simp),put_app (fun e he=>h e (by simp [he]))];rfl
theorem put_new {os:List Occ}{o:Occ}{ks:List (Str×Str)}(h:o.1∉ks)(hos: ∀q∈os,q.1∈ks):putS o (ks.map (mkE os))=(ks++[o.1]).map (mkE (os++[o])):=by
 rw [put_app (fun e he=>?_),List.map_append]
 ·congr 1
  ·refine List.map_congr_left fun x hx=>?_
   have:(o.1==x)=false:=beq_eq_false_iff_ne.2 fun e=>h (e▸hx)
   rw [mkE_snoc,this,if_neg (by simp)]
  ·rw [List.map_singleton,mkE_snoc,beq_self_eq_true,if_pos rfl]
   have:os.filter (fun q=>q.1==o.1)=[]:=List.filter_eq_nil_iff.2 fun q hq e=>h (by have:=eq_of_beq e;rw [←this];exact hos q hq)
   simp [mkE,this,postsOf]
 ·obtain⟨k,hk,rfl⟩:=List.mem_map.1 he
  show (k==o.1)=false
  exact beq_eq_false_iff_ne.2 fun e=>h (e▸hk)
theorem puts_gen: ∀(l pre:List Occ),l.foldl (fun es o=>putS o es) ((keysOf pre).map (mkE pre))=(keysOf (pre++l)).map (mkE (pre++l))
 | [],pre=>by rw [List.append_nil];rfl
 | o::l,pre=>by
  have hk:=keys_ok pre
  have hst:putS o ((keysOf pre).map (mkE pre))=(keysOf (pre++[o])).map (mkE (pre++[o])):=by
   rw [keysOf_snoc]
   by_cases h:o.1∈keysOf pre
   ·rw [addKey_old h,put_old hk.1 h]
   ·rw [addKey_new h,put_new h fun q hq=>(hk.2 _).2 ⟨q,hq,rfl⟩]
  rw [List.foldl_cons,hst,puts_gen l (pre++[o]),show pre++[o]++l=pre++o::l by simp]
theorem puts_all (os:List Occ):os.foldl (fun es o=>putS o es) []=(keysOf os).map (mkE os):=by
 have:=puts_gen os []
 simpa [keysOf] using this
end Go.Fk
set_option linter.unusedVariables false
namespace Go.Fk
open Go
theorem terms_nil (c:GConf):termsS c []=[]:=by
 have h:=terms_len c []
 exact List.eq_nil_of_length_eq_zero (by simp at h;simp [h])
theorem fold_mem {α:Type}(h:α→Str){x:Str}: ∀(l:List α) (a:List Str),x∈l.foldl (fun a y=>insS (h y) a) a↔x∈a∨∃y∈l,h y=x
 | [],a=>by simp
 | y::r,a=>by
  rw [List.foldl_cons,fold_mem h r,mem_insS]
  constructor
  ·rintro ((rfl | h1) | ⟨z,hz,e⟩)
   ·exact .inr ⟨y,by simp,rfl⟩
   ·exact .inl h1
   ·exact .inr ⟨z,by simp [hz],e⟩
  ·rintro (h1 | ⟨z,hz,e⟩)
   ·exact .inl (.inr h1)
   ·rcases List.mem_cons.1 hz with rfl | hz
    ·exact .inl (.inl e.symm)
    ·exact .inr ⟨z,hz,e⟩
theorem fold_sorted {α:Type}(h:α→Str): ∀(l:List α) (a:List Str),SortS a→SortS (l.foldl (fun a y=>insS (h y) a) a)
 | [],a,ha=>ha
 | y::r,a,ha=>by rw [List.foldl_cons];exact fold_sorted h r _ (insS_sorted ha)
theorem names_gen (n:Str): ∀(docs:List GDoc) (a:List Str),(SortS a→SortS (docs.foldl (fun a d=>d.Fields.foldl (fun a f=>insS f.Name a) a) a))∧(n∈docs.foldl (fun a d=>d.Fields.foldl (fun a f=>insS f.Name a) a) a↔n∈a∨∃d∈docs,∃f∈d.Fields,f.Name=n)
 | [],a=>by simp
 | d::r,a=>by
  have ih:=names_gen n r (d.Fields.foldl (fun a f=>insS f.Name a) a)
  rw [List.foldl_cons]
  refine⟨fun h=>ih.1 (fold_sorted (fun f:GField=>f.Name) _ _ h),?_⟩
  rw [ih.2,fold_mem (fun f:GField=>f.Name)]
  constructor
  ·rintro ((h | h) | ⟨e,he,h⟩)
   ·exact .inl h
   ·exact .inr ⟨d,by simp,h⟩
   ·exact .inr ⟨e,by simp [he],h⟩
  ·rintro (h | ⟨e,he,h⟩)
   ·exact .inl (.inl h)
   ·rcases List.mem_cons.1 he with rfl | he
    ·exact .inl (.inr h)
    ·exact .inr ⟨e,he,h⟩
theorem mem_names {docs:List GDoc}{n:Str}:n∈namesS docs↔∃d∈docs,∃f∈d.Fields,f.Name=n:=by
 have:=(names_gen n docs []).2
 simpa [namesS] using this
theorem names_sorted (docs:List GDoc):SortS (namesS docs):=(names_gen [] docs []).1 List.Pairwise.nil
theorem fterms_gen (c:GConf)(n t:Str): ∀(docs:List GDoc) (a:List Str),(SortS a→SortS (docs.foldl (fun a d=>putsS a (termsS c (fieldS d n))) a))∧(t∈docs.foldl (fun a d=>putsS a (termsS c (fieldS d n))) a↔t∈a∨∃d∈docs,∃x∈termsS c (fieldS d n),x.Text=t)
 | [],a=>by simp
 | d::r,a=>by
  have ih:=fterms_gen c n t r (putsS a (termsS c (fieldS d n)))
  rw [List.foldl_cons]
  refine⟨fun h=>ih.1 (fold_sorted (fun x:GTerm=>x.Text) _ _ h),?_⟩
  rw [ih.2]
  unfold putsS
  rw [fold_mem (fun x:GTerm=>x.Text)]
  constructor
  ·rintro ((h | h) | ⟨e,he,h⟩)
   ·exact .inl h
   ·exact .inr ⟨d,by simp,h⟩
   ·exact .inr ⟨e,by simp [he],h⟩
  ·rintro (h | ⟨e,he,h⟩)
   ·exact .inl (.inl h)
   ·rcases List.mem_cons.1 he with rfl | he
    ·exact .inl (.inr h)
    ·exact .inr ⟨e,he,h⟩
theorem mem_fterms {c:GConf}{docs:List GDoc}{n t:Str}:t∈ftermsS c docs n↔∃d∈docs,∃x∈termsS c (fieldS d n),x.Text=t:=by
 have:=(fterms_gen c n t docs []).2
 simpa [ftermsS] using this
theorem fterms_sorted (c:GConf)(docs:List GDoc)(n:Str):SortS (ftermsS c docs n):=(fterms_gen c n [] docs []).1 List.Pairwise.nil
theorem addPost_new {ps:List GPost}{id a:Int}(h:needPost ps id=true):addPost ps id a=ps++[GPost.mk id [a]]:=by
 unfold addPost
 rw [h];simp
theorem addPost_more {ps:List GPost}{id a:Int}{as':List Int}:addPost (ps++[GPost.mk id as']) id a=ps++[GPost.mk id (as'++[a])]:=by
 have:needPost (ps++[GPost.mk id as']) id=false:=by simp [needPost]
 unfold addPost
 rw [this];simp
theorem post_more {ps:List GPost}{id:Int}: ∀(l as':List Int),(l.map fun a=>(id,a)).foldl (fun ps q=>addPost ps q.1 q.2) (ps++[GPost.mk id as'])=ps++[GPost.mk id (as'++l)]
 | [],as'=>by simp
 | a::l,as'=>by rw [List.map_cons,List.foldl_cons,addPost_more,post_more l,List.append_assoc];rfl
theorem post_block {ps:List GPost}{id:Int}{l:List Int}(h:needPost ps id=true):(l.map fun a=>(id,a)).foldl (fun ps q=>addPost ps q.1 q.2) ps=ps++(if decide (0<l.length) then [GPost.mk id l] else []):=by
 cases l with
 | nil=>simp
 | cons a l=>rw [List.map_cons,List.foldl_cons,addPost_new h,post_more];simp
theorem need_of {ps:List GPost}{id:Int}(h: ∀p∈ps,p.Doc≠id):needPost ps id=true:=by
 unfold needPost
 split
 ·rfl
 ·rename_i p hp
  have:=h p (List.mem_of_getLast? hp)
  simp [this]
theorem posts_docs (c:GConf)(n t:Str): ∀(docs:List GDoc) (ps:List GPost),(docs.Pairwise fun a b=>a.Id<b.Id)→(∀p∈ps,∀d∈docs,p.Doc<d.Id)→
  (docs.flatMap fun d=>(postS c d n t).map fun a=>(d.Id,a)).foldl (fun ps q=>addPost ps q.1 q.2) ps=ps++docs.flatMap (docPost c n t)
 | [],ps,_,_=>by simp
 | d::r,ps,hd,hp=>by
  have hc:=List.pairwise_cons.1 hd
  rw [List.flatMap_cons,List.flatMap_cons,List.foldl_append,post_block (need_of fun p hm=>by have:=hp p hm d (by simp);omega),posts_docs c n t r _ hc.2 (fun p hm e he=>?_),List.append_assoc]
  ·rfl
  ·rcases List.mem_append.1 hm with hm | hm
   ·exact hp p hm e (by simp [he])
   ·split at hm
    ·rw [List.mem_singleton] at hm;subst hm;exact hc.1 e he
    ·cases hm
def fieldOcc (c:GConf)(id:Int)(f:GField):List Occ:=(termsS c f.Text).map fun x=>((f.Name,x.Text),(id,x.At))
def docOcc (c:GConf)(d:GDoc):List Occ:=d.Fields.flatMap (fieldOcc c d.Id)
def occS (c:GConf)(docs:List GDoc):List Occ:=docs.flatMap (docOcc c)
theorem occ_field (c:GConf)(id:Int)(f:GField)(n t:Str):((fieldOcc c id f).filter fun o=>o.1==(n,t)).map (·.2)=if f.Name==n then ((termsS c f.Text).flatMap fun x=>if x.Text==t then [x.At] else []).map fun a=>(id,a) else []:=by
 unfold fieldOcc
 generalize termsS c f.Text=l
 have hk: ∀x:GTerm,(((f.Name,x.Text):Str×Str)==(n,t))=(f.Name==n&&x.Text==t):=fun _=>rfl
 cases h:f.Name==n
 ·rw [if_neg (by simp),List.filter_eq_nil_iff.2 fun o ho e=>?_]
  ·rfl
  ·obtain⟨x,_,rfl⟩:=List.mem_map.1 ho
   have e':=(hk x).symm.trans e
   rw [h] at e';cases e'
 ·rw [if_pos rfl]
  induction l with
  | nil=>rfl
  | cons x r ih=>
   rw [List.map_cons,List.filter_cons,List.flatMap_cons,hk,h,Bool.true_and,List.map_append,←ih]
   cases x.Text==t<;>rfl
theorem occ_fields (c:GConf)(id:Int)(n t:Str): ∀(l:List GField),(l.Pairwise fun f g=>f.Name≠g.Name)→(((l.flatMap (fieldOcc c id)).filter fun o=>o.1==(n,t)).map (·.2))=((termsS c ((l.find? fun f=>f.Name==n).elim [] (·.Text))).flatMap fun x=>if x.Text==t then [x.At] else []).map fun a=>(id,a)
 | [],_=>by simp [terms_nil]
 | f::r,h=>by
  have hc:=List.pairwise_cons.1 h
  have ih:=occ_fields c id n t r hc.2
  rw [List.flatMap_cons,List.filter_append,List.map_append,occ_field,List.find?_cons]
  cases hn:f.Name==n
  ·rw [if_neg (by simp),List.nil_append,ih]
  ·have he:=eq_of_beq hn
   have hnone:r.find? (fun g=>g.Name==n)=none:=List.find?_eq_none.2 fun g hg e=>hc.1 g hg (he.trans (eq_of_beq e).symm)
   rw [if_pos rfl,ih,hnone]
   simp [terms_nil]
theorem occ_key (c:GConf)(n t:Str): ∀(docs:List GDoc),(∀d∈docs,d.Fields.Pairwise fun f g=>f.Name≠g.Name)→((occS c docs).filter fun o=>o.1==(n,t)).map (·.2)=docs.flatMap fun d=>(postS c d n t).map fun a=>(d.Id,a)
 | [],_=>by simp [occS]
 | d::r,h=>by
  have ih:=occ_key c n t r fun e he=>h e (by simp [he])
  unfold occS at ih ⊢
  rw [List.flatMap_cons,List.filter_append,List.map_append,ih,List.flatMap_cons]
  congr 1
  exact occ_fields c d.Id n t d.Fields (h d (by simp))
structure DocsGood (docs:List GDoc):Prop where
 ids:docs.Pairwise fun a b=>a.Id<b.Id
 names: ∀d∈docs,d.Fields.Pairwise fun f g=>f.Name≠g.Name
theorem mkE_entry {c:GConf}{docs:List GDoc}(h:DocsGood docs)(n t:Str):mkE (occS c docs) (n,t)=entryS c docs n t:=by
 unfold mkE entryS postsOf
 rw [occ_key c n t docs h.names]
 have:=posts_docs c n t docs [] h.ids (by simp)
 rw [List.nil_append] at this
 simp only [this]
theorem mem_docOcc {c:GConf}{d:GDoc}{o:Occ}:o∈docOcc c d↔∃f∈d.Fields,∃x∈termsS c f.Text,o=((f.Name,x.Text),(d.Id,x.At)):=by
 unfold docOcc fieldOcc
 simp only [List.mem_flatMap,List.mem_map,eq_comm]
theorem field_at {d:GDoc}(h:d.Fields.Pairwise fun f g=>f.Name≠g.Name){f:GField}(hf:f∈d.Fields):fieldS d f.Name=f.Text:=by
 have gen: ∀l:List GField,(l.Pairwise fun f g=>f.Name≠g.Name)→f∈l→(l.find? fun g=>g.Name==f.Name).elim [] (·.Text)=f.Text:=by
  intro l
  induction l with
  | nil=>intro _ h;cases h
  | cons g r ih=>
   intro hp hm
   have hc:=List.pairwise_cons.1 hp
   rw [List.find?_cons]
   rcases List.mem_cons.1 hm with rfl | hm
   ·rw [beq_self_eq_true];rfl
   ·have:(g.Name==f.Name)=false:=beq_eq_false_iff_ne.2 (hc.1 f hm)
    rw [this];exact ih hc.2 hm
 exact gen d.Fields h hf
theorem mem_segS {c:GConf}{docs:List GDoc}(h:DocsGood docs)(e:GEntry):e∈(segS c docs).Entries↔e∈(keysOf (occS c docs)).map (mkE (occS c docs)):=by
 unfold segS
 rw [List.mem_flatMap,List.mem_map]
 have hk:=(keys_ok (occS c docs)).2
 constructor
 ·rintro⟨n,hn,hm⟩
  obtain⟨t,ht,rfl⟩:=List.mem_map.1 hm
  refine⟨(n,t),(hk _).2 ?_,mkE_entry h n t⟩
  obtain⟨d,hd,x,hx,rfl⟩:=mem_fterms.1 ht
  unfold fieldS at hx
  cases hf:d.Fields.find? fun f=>f.Name==n with
  | none=>
   rw [hf] at hx
   rw [Option.elim_none,terms_nil] at hx;cases hx
  | some f=>
   rw [hf] at hx
   have hfn:=List.find?_some hf
   exact⟨((f.Name,x.Text),(d.Id,x.At)),List.mem_flatMap.2 ⟨d,hd,mem_docOcc.2 ⟨f,List.mem_of_find?_eq_some hf,x,hx,rfl⟩⟩,by rw [eq_of_beq hfn]⟩
 ·rintro⟨⟨n,t⟩,hkm,rfl⟩
  obtain⟨o,ho,hok⟩:=(hk _).1 hkm
  obtain⟨d,hd,hod⟩:=List.mem_flatMap.1 ho
  obtain⟨f,hf,x,hx,rfl⟩:=mem_docOcc.1 hod
  cases hok
  refine⟨f.Name,mem_names.2 ⟨d,hd,f,hf,rfl⟩,List.mem_map.2 ⟨x.Text,mem_fterms.2 ⟨d,hd,x,?_,rfl⟩,(mkE_entry h _ _).symm⟩⟩
  rw [field_at (h.names d hd) hf];exact hx
def ltE (a b:GEntry):Bool:=strLess a.Field b.Field||(a.Field==b.Field&&strLess a.Term b.Term)
theorem ltE_iff (a b:GEntry):ltE a b=true↔strLess a.Field b.Field=true∨(a.Field=b.Field∧strLess a.Term b.Term=true):=by simp [ltE]
theorem ltE_irr (a:GEntry):ltE a a=false:=by
 rw [Bool.eq_false_iff];intro h
 rcases (ltE_iff a a).1 h with h | ⟨_,h⟩
 ·rw [sl_irrefl] at h;cases h
 ·rw [sl_irrefl] at h;cases h
theorem ltE_tr {a b c:GEntry}(h:ltE a b=true)(h':ltE b c=true):ltE a c=true:=by
 rw [ltE_iff] at h h' ⊢
 rcases h with h | ⟨e,h⟩
 ·rcases h' with h' | ⟨e',h'⟩
  ·exact .inl (sl_trans h h')
  ·exact .inl (e'▸h)
 ·rcases h' with h' | ⟨e',h'⟩
  ·exact .inl (e▸h')
  ·exact .inr ⟨e.trans e',sl_trans h h'⟩
theorem ltE_ng {a b c:GEntry}(h:ltE a c=true):ltE a b=true∨ltE b c=true:=by
 rw [ltE_iff] at h ⊢
 rw [ltE_iff]
 rcases h with h | ⟨e,h⟩
 ·rcases sl_neg (b:=b.Field) h with h1 | h1
  ·exact .inl (.inl h1)
  ·exact .inr (.inl h1)
 ·by_cases e1:a.Field=b.Field
  ·rcases sl_neg (b:=b.Term) h with h1 | h1
   ·exact .inl (.inr ⟨e1,h1⟩)
   ·exact .inr (.inr ⟨e1▸e,h1⟩)
  ·rcases sl_or e1 with h1 | h1
   ·exact .inl (.inl h1)
   ·exact .inr (.inl (e▸h1))
theorem ltE_or {a b:GEntry}(h:(a.Field,a.Term)≠(b.Field,b.Term)):ltE a b=true∨ltE b a=true:=by
 rw [ltE_iff,ltE_iff]
 by_cases e:a.Field=b.Field
 ·have:a.Term≠b.Term:=fun e'=>h (by rw [e,e'])
  rcases sl_or this with h1 | h1
  ·exact .inl (.inr ⟨e,h1⟩)
  ·exact .inr (.inr ⟨e.symm,h1⟩)
 ·rcases sl_or e with h1 | h1
  ·exact .inl (.inl h1)
  ·exact .inr (.inl h1)
theorem segS_sorted (c:GConf)(docs:List GDoc):(segS c docs).Entries.Pairwise fun a b=>ltE a b=true:=by
 unfold segS
 refine List.pairwise_flatMap.2 ⟨fun n _=>?_,?_⟩
 ·exact List.pairwise_map.2 (List.Pairwise.imp (R:=fun a b=>strLess a b=true) (fun {a b} h=>(ltE_iff (entryS c docs n a) (entryS c docs n b)).2 (.inr ⟨rfl,h⟩)) (fterms_sorted c docs n))
 ·refine(names_sorted docs).imp fun {a b} h x hx y hy=>?_
  obtain⟨t,_,rfl⟩:=List.mem_map.1 hx
  obtain⟨u,_,rfl⟩:=List.mem_map.1 hy
  exact(ltE_iff _ _).2 (.inl h)
theorem keys_apart (os:List Occ):((keysOf os).map (mkE os)).Pairwise fun a b=>ltE a b=true∨ltE b a=true:=
 List.pairwise_map.2 (List.Pairwise.imp (R:=fun a b=>a≠b) (fun {a b} h=>ltE_or (a:=mkE os a) (b:=mkE os b) h) (keys_ok os).1)
def cmpS (x y:Str):Int:=if strLess x y then -1 else if !(strLess x y||x==y) then 1 else 0
theorem cmp_str (F:Nat)(x y:Str):M.cmp_Compare_string F x y=some (cmpS x y):=by
 have hn: ∀s,M.cmp_isNaN_string F s=some false:=fun s=>by unfold M.cmp_isNaN_string;simp
 unfold M.cmp_Compare_string cmpS
 rw [hn,hn,Option.bind_some,Option.bind_some,cond_false,cond_false,if_bif,if_bif]
 cases strLess x y
 ·cases x==y<;>rfl
 ·rfl
end Go.Fk
