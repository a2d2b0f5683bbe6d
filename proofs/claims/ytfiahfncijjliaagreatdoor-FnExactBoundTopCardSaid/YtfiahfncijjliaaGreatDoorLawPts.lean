import Derived.Test.YtfiahfncijjliaaGreatDoorLawRds
/-
  A term's points in a document of a piece: what the program computes is what the reference computes.
-/
set_option linter.unusedVariables false
set_option maxRecDepth 100000
namespace Go.Fk
open Go
theorem words_half: ∀(n:Nat) (s:Str) (o k:Nat),s.length≤n→2*(wordsA s o k).length≤s.length+1
 | n,[],o,k,_=>by rw [wordsA_nil];simp
 | 0,b::r,o,k,h=>by simp at h
 | n+1,b::r,o,k,h=>by
  rw [wordsA]
  by_cases hb:isW b=true
  ·rw [if_pos hb]
   have hpos:0<((b::r).takeWhile isW).length:=by rw [List.takeWhile_cons,if_pos hb];simp
   have hle:=(List.takeWhile_prefix isW (l:=b::r)).length_le
   have hdw:(b::r).drop ((b::r).takeWhile isW).length=(b::r).dropWhile isW:=by
    have:=List.takeWhile_append_dropWhile (p:=isW) (l:=b::r)
    conv=>lhs;rw [←this]
    rw [List.drop_left' (by rw [this])]
   have hdl:((b::r).drop ((b::r).takeWhile isW).length).length=(b::r).length-((b::r).takeWhile isW).length:=List.length_drop
   rw [List.length_cons]
   cases hr:(b::r).drop ((b::r).takeWhile isW).length with
   | nil=>rw [wordsA_nil];simp only [List.length_nil,List.length_cons];omega
   | cons x q=>
    have hx:isW x=false:=by
     rw [hdw] at hr
     have:=List.head_dropWhile_not (p:=isW) (l:=b::r) (by rw [hr];simp)
     simp only [hr,List.head_cons] at this
     simpa using this
    rw [hr] at hdl
    rw [wordsA,if_neg (by rw [hx];simp)]
    have ih:=words_half n q (o+((b::r).takeWhile isW).length+1) (k+1) (by simp only [List.length_cons] at hdl h;omega)
    simp only [List.length_cons] at hdl ⊢
    omega
  ·rw [if_neg hb]
   have ih:=words_half n r (o+1) k (by rw [List.length_cons] at h;omega)
   rw [List.length_cons];omega
theorem terms_80 {c:GConf}{s:Str}(h:textS s=true):(termsS c s).length≤80:=by
 have h1:=rew_len (syns:=c.Syns) (plainS c s).length (plainS c s)
 have h2:=flat_le (g:=plainOne c.Stops) (m:=1) (wordsS s) (fun w _=>plain_one_len c.Stops w)
 have h3:=words_half s.length s 0 0 (Nat.le_refl _)
 unfold textS at h
 simp only [Bool.and_eq_true,decide_eq_true_iff] at h
 have h4:=h.2
 have h5:(plainS c s).length=((wordsS s).flatMap (plainOne c.Stops)).length:=rfl
 have h6:(wordsS s).length=(wordsA s 0 0).length:=rfl
 unfold termsS;omega
def entryT (n:Str)(e:GEntry):Nat:=if e.Field==n then (e.Posts.map fun p=>p.At.length).sum else 0
def totN (c:GConf)(docs:List GDoc)(n:Str):Nat:=(docs.map fun d=>(termsS c (fieldS d n)).length).sum
theorem sum_swap {α β:Type}(f:α→β→Nat)(T:List α): ∀D:List β,(T.map fun t=>(D.map (f t)).sum).sum=(D.map fun d=>(T.map fun t=>f t d).sum).sum
 | []=>by simp only [List.map_nil,List.sum_nil];exact sum_zero T
 | d::D=>by
  rw [List.map_cons,List.sum_cons,←sum_swap f T D,←sum_add]
  congr 1
theorem total_sum {c:GConf}{docs:List GDoc}(n:Str):((segS c docs).Entries.map (entryT n)).sum=totN c docs n:=by
 have hnn:(namesS docs).Nodup:=(show List.Pairwise (fun a b=>strLess a b=true) (namesS docs) from names_sorted docs).imp fun {a b} k e=>by subst e;rw [sl_irrefl] at k;cases k
 have htn:(ftermsS c docs n).Nodup:=(show List.Pairwise (fun a b=>strLess a b=true) (ftermsS c docs n) from fterms_sorted c docs n).imp fun {a b} k e=>by subst e;rw [sl_irrefl] at k;cases k
 show (((namesS docs).flatMap fun n=>(ftermsS c docs n).map (entryS c docs n)).map (entryT n)).sum=_
 rw [sum_flat,sum_pick (a:=n) _ hnn (fun m _ hm=>?_)]
 ·have hin:((ftermsS c docs n).map (entryS c docs n)).map (entryT n)=(ftermsS c docs n).map fun t=>(docs.map fun d=>(postS c d n t).length).sum:=by
   rw [List.map_map]
   refine List.map_congr_left fun t _=>?_
   show entryT n (entryS c docs n t)=_
   unfold entryT entryS
   simp only [beq_self_eq_true,if_true]
   rw [sum_flat]
   congr 1
   refine List.map_congr_left fun d _=>?_
   unfold docPost
   by_cases h0:0<(postS c d n t).length
   ·rw [decide_eq_true h0,if_pos rfl];simp
   ·rw [decide_eq_false h0,if_neg (by simp)]
    have:(postS c d n t).length=0:=by omega
    rw [this];rfl
  rw [hin,sum_swap]
  unfold totN
  by_cases hm:n∈namesS docs
  ·rw [if_pos hm]
   congr 1
   refine List.map_congr_left fun d hd=>?_
   exact count_sum htn _ fun x hx=>mem_fterms.2 ⟨d,hd,x,hx,rfl⟩
  ·rw [if_neg hm]
   have:(docs.map fun d=>(termsS c (fieldS d n)).length)=docs.map fun _=>0:=List.map_congr_left fun d hd=>by
    have:fieldS d n=[]:=by
     unfold fieldS
     cases hff:d.Fields.find? fun f=>f.Name==n with
     | none=>rfl
     | some f=>exact absurd (mem_names.2 ⟨d,hd,f,List.mem_of_find?_eq_some hff,eq_of_beq (List.find?_some (p:=fun f:GField=>f.Name==n) hff)⟩) hm
    rw [this,terms_nil];rfl
   rw [this,sum_zero]
 ·have:((ftermsS c docs m).map (entryS c docs m)).map (entryT n)=(ftermsS c docs m).map fun _=>0:=by
   rw [List.map_map]
   refine List.map_congr_left fun t _=>?_
   show entryT n (entryS c docs m t)=0
   unfold entryT
   have:((entryS c docs m t).Field==n)=false:=beq_eq_false_iff_ne.2 hm
   rw [this];rfl
  rw [this]
  exact sum_zero _
def atS (s:GSeg)(n t:Str)(id:Int):List Int:=((postsAt s n t).find? fun p=>p.Doc==id).elim [] (·.At)
def pointsS (c:GConf)(s:GSeg)(n t:Str)(id:Int):Nat:=if (atS s n t id).length=0 then 0 else scoreN (atS s n t id).length (fieldLen c s.Docs n id) (totN c s.Docs n) s.Docs.length (postsAt s n t).length
theorem post_le {c:GConf}{d:GDoc}(n t:Str):(postS c d n t).length≤(termsS c (fieldS d n)).length:=by
 have:=flat_le (g:=fun x:GTerm=>if x.Text==t then [x.At] else []) (m:=1) (termsS c (fieldS d n)) (fun x _=>by split<;>simp)
 unfold postS;omega
theorem at_doc {c:GConf}{docs:List GDoc}{n t:Str}{id:Int}(h:(atS (segS c docs) n t id).length≠0): ∃d∈docs,d.Id=id∧atS (segS c docs) n t id=postS c d n t:=by
 unfold atS at h ⊢
 rw [postsAt_seg] at h ⊢
 cases hf:(docs.flatMap (docPost c n t)).find? fun p=>p.Doc==id with
 | none=>rw [hf] at h;exact absurd rfl h
 | some p=>
  have hm:=List.mem_of_find?_eq_some hf
  have he:=eq_of_beq (List.find?_some (p:=fun p:GPost=>p.Doc==id) hf)
  obtain⟨d,hd,hp⟩:=List.mem_flatMap.1 hm
  unfold docPost at hp
  split at hp
  ·rcases List.mem_singleton.1 hp with rfl
   exact⟨d,hd,he,rfl⟩
  ·cases hp
theorem posts_le (c:GConf)(n t:Str): ∀docs:List GDoc,(docs.flatMap (docPost c n t)).length≤docs.length:=fun docs=>by
 have:=flat_le (g:=docPost c n t) (m:=1) docs (fun d _=>docPost_one c n t d)
 omega
theorem find_id {docs:List GDoc}(hp:docs.Pairwise fun a b=>a.Id<b.Id){d:GDoc}(hd:d∈docs):docs.find? (fun e=>e.Id==d.Id)=some d:=by
 induction docs with
 | nil=>cases hd
 | cons e r ih=>
  have hc:=List.pairwise_cons.1 hp
  rw [List.find?_cons]
  rcases List.mem_cons.1 hd with rfl | hd
  ·rw [beq_self_eq_true]
  ·have:=hc.1 d hd
   rw [beq_eq_false_iff_ne.2 (by omega)]
   exact ih hc.2 hd
theorem mem_sum {α:Type}(w:α→Nat){x:α}: ∀{l:List α},x∈l→w x≤(l.map w).sum
 | y::l,h=>by
  rw [List.map_cons,List.sum_cons]
  rcases List.mem_cons.1 h with rfl | h
  ·omega
  ·have:=mem_sum w h;omega
theorem score_ok {c:GConf}{docs:List GDoc}(hd:docsS docs=true){n t:Str}{id:Int}(h:(atS (segS c docs) n t id).length≠0):ScoreOk (atS (segS c docs) n t id).length (fieldLen c docs n id) (totN c docs n) docs.length (postsAt (segS c docs) n t).length:=by
 obtain⟨d,hm,hid,hat⟩:=at_doc h
 obtain⟨i1,i2,i3⟩:=docs_ids hd
 have hdoc:=(docs_all hd).2
 have h80: ∀e∈docs,(termsS c (fieldS e n)).length≤80:=fun e he=>terms_80 (field_text (hdoc e he) n)
 have hfl:fieldLen c docs n id=(termsS c (fieldS d n)).length:=by
  unfold fieldLen
  rw [←hid,find_id i3 hm];rfl
 have h1:=post_le (c:=c) (d:=d) n t
 have h2:=h80 d hm
 have h3:(termsS c (fieldS d n)).length≤totN c docs n:=mem_sum (fun d=>(termsS c (fieldS d n)).length) hm
 have h4:totN c docs n≤docs.length*80:=sum_le docs h80
 have h5:=List.length_pos_of_mem hm
 have h6:=posts_le c n t docs
 have h7:0<(postsAt (segS c docs) n t).length:=by
  unfold atS at h
  cases hf:(postsAt (segS c docs) n t).find? fun p=>p.Doc==id with
  | none=>rw [hf] at h;exact absurd rfl h
  | some p=>exact List.length_pos_of_mem (List.mem_of_find?_eq_some hf)
 rw [postsAt_seg] at h7 ⊢
 rw [hat] at h ⊢
 rw [hfl]
 exact⟨⟨by omega,by omega⟩,⟨h1,h2⟩,⟨h3,by omega⟩,⟨by omega,i1⟩,⟨h7,h6⟩⟩
end Go.Fk
set_option linter.unusedVariables false
set_option maxRecDepth 100000
namespace Go.Fk
open Go
theorem posts_of (F:Nat)(x:GScorer)(n t:Str):M.impl_Seg_posts__ofGScorer1 F x n t=M.impl_Seg_posts F x.s_ n t:=rfl
theorem doc_of (F:Nat)(x:GScorer)(id:Int):M.impl_Seg_doc__ofGScorer1 F x id=M.impl_Seg_doc F x.s_ id:=rfl
theorem long_of (F:Nat)(x:GScorer)(c:GConf)(n:Str)(id:Int):M.impl_Seg_long__ofGScorer1 F x c n id=M.impl_Seg_long F x.s_ c n id:=by
 unfold M.impl_Seg_long__ofGScorer1 M.impl_Seg_long
 rw [doc_of]
theorem impl_long (F:Nat)(c:GConf)(s:GSeg)(n:Str)(id:Int)(h1:confS c=true)(h2:docsS s.Docs=true)(hF:2000<F):M.impl_Seg_long F s c n id=some (fieldLen c s.Docs n id:Int):=by
 unfold M.impl_Seg_long fieldLen
 rw [impl_segdoc,Option.bind_some]
 cases hf:s.Docs.find? fun d=>d.Id==id with
 | none=>rfl
 | some d=>
  have hds:=(docs_all h2).2 d (List.mem_of_find?_eq_some hf)
  have:=impl_fieldTerms F h1 hds n hF
  simp only [Option.elim_some,Bool.not_true,cond_false]
  rw [impl_docField,Option.bind_some] at this ⊢
  rw [this];rfl
theorem impl_places (F:Nat)(c:GConf)(s:GSeg)(n t:Str)(id:Int):M.impl_scorer_places F ⟨c,s⟩ n t id=some (atS s n t id):=by
 unfold M.impl_scorer_places atS
 rw [posts_of,impl_findPosts,Option.bind_some]
 rw [find_from (xs:=postsAt s n t) (fun p=>p.Doc==id) (fun p=>p.At) (fun i x hx=>by
  rw [getI_nat',hx,Option.bind_some];cases x.Doc==id<;>rfl)]
 cases (postsAt s n t).find? (fun p=>p.Doc==id)<;>rfl
theorem len_id {c:GConf}{docs:List GDoc}(hd:docsS docs=true)(n:Str){d:GDoc}(hm:d∈docs):fieldLen c docs n d.Id=(termsS c (fieldS d n)).length:=by
 unfold fieldLen
 rw [find_id (docs_ids hd).2.2 hm];rfl
theorem len_80 {c:GConf}{docs:List GDoc}(hd:docsS docs=true)(n:Str)(id:Int):fieldLen c docs n id≤80:=by
 unfold fieldLen
 cases hf:docs.find? fun d=>d.Id==id with
 | none=>exact Nat.zero_le _
 | some d=>exact terms_80 (field_text ((docs_all hd).2 d (List.mem_of_find?_eq_some hf)) n)
theorem take_sum {c:GConf}{docs:List GDoc}(hd:docsS docs=true)(n:Str)(i:Nat):((docs.take i).map fun d=>(termsS c (fieldS d n)).length).sum≤16*80:=by
 have h1:=sum_le (w:=fun d=>(termsS c (fieldS d n)).length) (B:=80) (docs.take i) (fun d hm=>by
  have:=len_80 (c:=c) hd n d.Id
  rw [len_id hd n (List.mem_of_mem_take hm)] at this
  exact this)
 have h2:=(docs_ids hd).1
 have h3:(docs.take i).length≤docs.length:=by rw [List.length_take];omega
 exact Nat.le_trans h1 (Nat.mul_le_mul_right _ (by omega))
theorem impl_total (F:Nat)(c:GConf)(docs:List GDoc)(n:Str)(hd:docsS docs=true){f:Nat→Int→Option Int}(h: ∀(i:Nat) d (s:Int),docs[i]? =some d→f i s=some (w64 (s+(fieldLen c docs n d.Id:Int)))):forE f docs.length 0 (0:Int)=some ((totN c docs n:Nat):Int):=by
 obtain⟨t,ht,hp⟩:=forE_run' (σ:=Int) (f:=f) (fun i s=>s=((((docs.take i).map fun d=>(termsS c (fieldS d n)).length).sum:Nat):Int)) docs.length (fun i s hi hs=>by
  have hb:=take_sum (c:=c) hd n (i+1)
  refine⟨_,h i docs[i] s (List.getElem?_eq_getElem hi),?_⟩
  rw [len_id hd n (List.getElem_mem hi),hs]
  rw [List.take_succ_eq_append_getElem hi,List.map_append,List.sum_append] at hb ⊢
  simp only [List.map_cons,List.map_nil,List.sum_cons,List.sum_nil,Nat.add_zero] at hb ⊢
  exact w64_sum (by omega)) docs.length 0 0 (by omega) (by simp)
 rw [ht,hp,List.take_length];rfl
theorem impl_points (F:Nat)(c:GConf)(s:GSeg)(n t:Str)(id:Int)(ho:segOk c s=true)(hF:1000000000<F):M.impl_scorer_points F ⟨c,s⟩ n t id=some (pointsS c s n t id:Int):=by
 obtain⟨h1,h2,h3⟩:=seg_is ho
 unfold M.impl_scorer_points pointsS
 rw [impl_places,Option.bind_some]
 by_cases h0:(atS s n t id).length=0
 ·rw [if_pos h0,beq_iff_eq.2 (by omega)];rfl
 ·rw [if_neg h0,beq_eq_false_iff_ne.2 (by omega),cond_false]
  dsimp only
  rw [impl_total F c s.Docs n h2 (fun i d a hx=>by
   rw [getI_nat',hx,Option.bind_some,long_of,impl_long F c s n d.Id h1 h2 (by omega),Option.bind_some]),Option.bind_some,Option.bind_some,long_of,impl_long F c s n id h1 h2 (by omega),Option.bind_some,posts_of,impl_findPosts,Option.bind_some]
  have hs:ScoreOk (atS s n t id).length (fieldLen c s.Docs n id) (totN c s.Docs n) s.Docs.length (postsAt s n t).length:=by
   have:=score_ok (c:=c) h2 (n:=n) (t:=t) (id:=id)
   rw [←h3] at this
   exact this h0
  have hu:=up_le hs
  have hd:=down_le hs
  rw [impl_term F _ _ _ _ _ hs hF,Option.bind_some,Option.bind_some]
  dsimp only
  rw [impl_milli F _ _ (by omega) ⟨hd.1,by omega⟩ hF];rfl
theorem spec_at (F:Nat)(s:GSeg)(n t:Str)(id:Int)(hl:s.Entries.length≤10000)(hp:(postsAt s n t).length≤10000)(hF:20000<F):M.spec_l12At F s n t id=some (atS s n t id):=by
 unfold M.spec_l12At atS
 rw [spec_findPosts F s n t hl hF,Option.bind_some]
 rw [find_while (xs:=postsAt s n t) (fun p=>p.Doc==id) (fun p=>(.inr p.At:Unit⊕List Int)) (e:=.inl ()) F (by omega) (fun i x hx=>?_) ?_]
 ·cases (postsAt s n t).find? (fun p=>p.Doc==id)<;>rfl
 ·rw [decide_eq_false (by omega)];rfl
 ·have hi:=(List.getElem?_eq_some_iff.1 hx).1
  rw [decide_eq_true (by omega),cond_true,getI_nat',hx,Option.bind_some,Option.bind_some,w64_succ' (by omega)]
  cases x.Doc==id<;>rfl
theorem entryT_le {n:Str}{e:GEntry}(h:e.Posts.length≤10000∧∀p∈e.Posts,p.At.length≤10000):entryT n e≤100000000:=by
 unfold entryT
 split
 ·have:=sum_le (w:=fun p:GPost=>p.At.length) e.Posts h.2
  have h2:e.Posts.length*10000≤10000*10000:=Nat.mul_le_mul_right _ h.1
  omega
 ·omega
theorem spec_total (F:Nat)(s:GSeg)(n:Str)(h:Fits 10000 s.Entries)(hF:20000<F):M.spec_l12Total F s n=some (((s.Entries.map (entryT n)).sum:Nat):Int):=by
 have hl:=h.1
 unfold M.spec_l12Total
 rw [(fold_while (xs:=s.Entries) (fun a e=>a+entryT n e) (fun i (a:Nat)=>a≤i*100000000) (fun a=>(a:Int)) (fun a i=>((a:Int),i)) (s0:=((0:Int),(0:Int))) 0 rfl F (by omega) (by simp) (fun i e a hx ha=>?_) (fun a ha=>?_)).1,foldl_sum]
 ·rw [Nat.zero_add];rfl
 ·have hi:=(List.getElem?_eq_some_iff.1 hx).1
  have hp:=h.2 e (List.mem_of_getElem? hx)
  have hw:=entryT_le (n:=n) hp
  have hp1:=hp.1
  refine⟨?_,by omega⟩
  simp only
  rw [decide_eq_true (by omega),cond_true]
  cases hfn:e.Field==n
  ·have e0:entryT n e=0:=by unfold entryT;rw [hfn];rfl
   obtain⟨G,rfl⟩: ∃G,F=G+1:=⟨F-1,by omega⟩
   rw [whileM]
   simp only
   rw [getI_nat',hx]
   simp only [Option.bind_some,hfn]
   have hz:(bif decide ((0:Int)<(e.Posts.length:Int)) then some false else some false)=some false:=by cases decide ((0:Int)<(e.Posts.length:Int))<;>rfl
   rw [hz]
   simp only [Option.bind_some,cond_false,Sum.elim_inr]
   rw [w64_succ' (by omega),e0];rfl
  ·rw [(fold_while (xs:=e.Posts) (fun a p=>a+p.At.length) (fun j (b:Nat)=>b≤i*100000000+j*10000) (fun a=>(a:Int)) (fun a i=>((a:Int),i)) (s0:=((a:Int),(0:Int))) a rfl F (by omega) (by rw [Nat.zero_mul,Nat.add_zero];exact ha) (fun j p b hxj hb=>?_) (fun b hb=>?_)).1,foldl_sum]
   ·rw [Option.bind_some,Option.bind_some,w64_succ' (by omega)]
    have:entryT n e=(e.Posts.map fun p=>p.At.length).sum:=by unfold entryT;rw [hfn];rfl
    rw [this]
   ·have hj:=(List.getElem?_eq_some_iff.1 hxj).1
    have hpa:=hp.2 p (List.mem_of_getElem? hxj)
    refine⟨?_,by omega⟩
    simp only
    rw [getI_nat',hx]
    simp only [Option.bind_some,hfn]
    rw [decide_eq_true (by omega),cond_true,Option.bind_some,cond_true,getI_nat',hxj,Option.bind_some,w64_succ' (by omega),w64_sum (by omega)]
   ·simp only
    rw [getI_nat',hx]
    simp only [Option.bind_some]
    rw [decide_eq_false (by omega)];rfl
 ·simp only
  rw [decide_eq_false (by omega)];rfl
theorem spec_points (F:Nat)(c:GConf)(s:GSeg)(n t:Str)(id:Int)(ho:segOk c s=true)(hF:1000000000<F):M.spec_l12Points F s n t id=some (pointsS c s n t id:Int):=by
 obtain⟨h1,h2,h3⟩:=seg_is ho
 have hfit:Fits 10000 s.Entries:=by
  have:=seg_fits (c:=c) h2
  rw [h3]
  exact⟨by have:=this.1;omega,fun e he=>⟨by have:=(this.2 e he).1;omega,fun p hp=>by have:=(this.2 e he).2 p hp;omega⟩⟩
 have hpl:=(postsAt_fits ho n t).1
 unfold M.spec_l12Points pointsS
 rw [spec_at F s n t id hfit.1 hpl (by omega),Option.bind_some]
 by_cases h0:(atS s n t id).length=0
 ·rw [if_pos h0,beq_iff_eq.2 (by omega)];rfl
 ·rw [if_neg h0,beq_eq_false_iff_ne.2 (by omega),cond_false]
  have hs:ScoreOk (atS s n t id).length (fieldLen c s.Docs n id) (totN c s.Docs n) s.Docs.length (postsAt s n t).length:=by
   have:=score_ok (c:=c) h2 (n:=n) (t:=t) (id:=id)
   rw [←h3] at this
   exact this h0
  have hu:=up_le hs
  have hd:=down_le hs
  have hsum:(s.Entries.map (entryT n)).sum=totN c s.Docs n:=by
   have:=total_sum (c:=c) (docs:=s.Docs) n
   rw [←h3] at this;exact this
  have hlen:(s.Entries.map (entryW n id)).sum=fieldLen c s.Docs n id:=by
   have:=long_sum (c:=c) (docs_good h2) n id
   rw [←h3] at this;exact this
  rw [spec_long F s n id hfit (by omega),Option.bind_some,spec_total F s n hfit (by omega),Option.bind_some,spec_findPosts F s n t hfit.1 (by omega),Option.bind_some,hsum,hlen,spec_term F _ _ _ _ _ hs hF,Option.bind_some,Option.bind_some]
  dsimp only
  rw [spec_milli _ _ (by omega) ⟨hd.1,by omega⟩];rfl
theorem points_le (c:GConf)(s:GSeg)(n t:Str)(id:Int)(ho:segOk c s=true):pointsS c s n t id≤1000000000:=by
 obtain⟨h1,h2,h3⟩:=seg_is ho
 unfold pointsS
 split
 ·omega
 ·rename_i h0
  have hs:ScoreOk (atS s n t id).length (fieldLen c s.Docs n id) (totN c s.Docs n) s.Docs.length (postsAt s n t).length:=by
   have:=score_ok (c:=c) h2 (n:=n) (t:=t) (id:=id)
   rw [←h3] at this
   exact this h0
  have hu:=up_le hs
  unfold scoreN milli
  have a1:upN (atS s n t id).length s.Docs.length (postsAt s n t).length/Nat.gcd (upN (atS s n t id).length s.Docs.length (postsAt s n t).length) (downN (atS s n t id).length (fieldLen c s.Docs n id) (totN c s.Docs n) s.Docs.length)≤upN (atS s n t id).length s.Docs.length (postsAt s n t).length:=Nat.div_le_self _ _
  refine Nat.le_trans (Nat.div_le_self _ _) ?_
  omega
end Go.Fk
set_option linter.unusedVariables false
set_option maxRecDepth 100000
namespace Go.Fk
open Go
def blk:List (Int×Nat)→List GBlock
 | []=>[]
 | [a]=>[⟨a.1,a.2⟩]
 | a::b::r=>⟨b.1,(max a.2 b.2:Nat)⟩::blk r
theorem blk_len: ∀ps:List (Int×Nat),(blk ps).length=(ps.length+1)/2
 | []=>rfl
 | [a]=>by simp [blk]
 | a::b::r=>by
  rw [blk,List.length_cons,blk_len r]
  simp only [List.length_cons];omega
theorem blk_app: ∀(qs r:List (Int×Nat)),qs.length%2=0→blk (qs++r)=blk qs++blk r
 | [],r,_=>rfl
 | [a],r,h=>by simp at h
 | a::b::q,r,h=>by
  rw [List.cons_append,List.cons_append,blk,blk,blk_app q r (by simp only [List.length_cons] at h;omega)];rfl
theorem blk_step {ps:List (Int×Nat)}{i:Nat}(hi:i<ps.length): ∃B y,(if i%2=0 then blk (ps.take i)++[⟨0,0⟩] else blk (ps.take i))=B++[y]∧blk (ps.take (i+1))=B++[⟨ps[i].1,max y.Most (ps[i].2:Int)⟩]∧0≤y.Most∧B.length=i/2:=by
 have htl:(ps.take i).length=i:=by rw [List.length_take];omega
 by_cases h:i%2=0
 ·refine⟨blk (ps.take i),⟨0,0⟩,by rw [if_pos h],?_,Int.le_refl _,by rw [blk_len,htl];omega⟩
  rw [List.take_succ_eq_append_getElem hi,blk_app _ _ (by rw [htl];exact h)]
  simp only [blk]
  congr 3
 ·have h1:i-1<ps.length:=by omega
  have e1:ps.take i=ps.take (i-1)++[ps[i-1]]:=by
   have:=List.take_succ_eq_append_getElem h1
   rwa [show i-1+1=i by omega] at this
  have htl2:(ps.take (i-1)).length=i-1:=by rw [List.length_take];omega
  refine⟨blk (ps.take (i-1)),⟨ps[i-1].1,ps[i-1].2⟩,?_,?_,by simp only;omega,by rw [blk_len,htl2];omega⟩
  ·rw [if_neg h,e1,blk_app _ _ (by rw [htl2];omega)];rfl
  ·rw [List.take_succ_eq_append_getElem hi,e1,List.append_assoc,blk_app _ _ (by rw [htl2];omega)]
   simp only [blk,List.cons_append,List.nil_append]
   congr 3
   omega
theorem set_last {α:Type}(B:List α)(y z:α):(B++[y]).set B.length z=B++[z]:=by
 rw [List.set_append_right _ _ (Nat.le_refl _),Nat.sub_self];rfl
theorem last_at {α:Type}(B:List α)(y:α)(h:B.length<8000000000000000000):w64 (((B++[y]).length:Int)-1)=(B.length:Int):=by
 rw [List.length_append,List.length_singleton,w64_pred (i:=B.length+1) (by omega) (by omega)];rfl
theorem get_last {α:Type}(B:List α)(y:α):getI (B++[y]) (B.length:Int)=some y:=by
 rw [getI_nat',List.getElem?_append_right (Nat.le_refl _),Nat.sub_self];rfl
theorem rem_two (i:Nat):remI (i:Int) 2=some ((i%2:Nat):Int):=by
 unfold remI
 rw [if_neg (by omega)]
 show some ((i:Int).tmod ((2:Nat):Int))=_
 rw [tmod_nat]
def psS (c:GConf)(s:GSeg)(n t:Str):List (Int×Nat):=(postsAt s n t).map fun p=>(p.Doc,pointsS c s n t p.Doc)
theorem impl_bounds (F:Nat)(c:GConf)(s:GSeg)(n t:Str)(ho:segOk c s=true)(hF:1000000000<F):M.impl_scorer_bounds F ⟨c,s⟩ n t=some (blk (psS c s n t)):=by
 have hpl:=(postsAt_fits ho n t).1
 unfold M.impl_scorer_bounds
 rw [posts_of,impl_findPosts,Option.bind_some]
 have hlen:(psS c s n t).length=(postsAt s n t).length:=by unfold psS;rw [List.length_map]
 obtain⟨r,hr,he⟩:=forE_run' (σ:=List GBlock) (f:=fun (i53:Nat) (s49:(List GBlock))=>(Option.bind (getI (postsAt s n t) ((i53:Nat):Int)) fun x68=>(Option.bind (remI ((i53:Nat):Int) (2:Int)) fun x88=>(Option.bind ((cond (x88==(0:Int)) (Option.bind (catL 16 s49 ([(GBlock.mk (0:Int) (0:Int))]:List GBlock)) fun x113=>(some x113)) (some s49)):Option (List GBlock)) fun o91=>(Option.bind (getI o91 (w64 ((o91.length:Int)-(1:Int)))) fun x130=>(Option.bind (M.impl_scorer_points F ⟨c,s⟩ n t x68.Doc) fun r156=>(some (List.set (List.set o91 ((w64 ((o91.length:Int)-(1:Int)))).toNat (GBlock.mk x68.Doc x130.Most)) ((w64 ((o91.length:Int)-(1:Int)))).toNat (GBlock.mk (GBlock.mk x68.Doc x130.Most).Last (if r156>(GBlock.mk x68.Doc x130.Most).Most then r156 else (GBlock.mk x68.Doc x130.Most).Most))))))))))
  (fun i acc=>acc=blk ((psS c s n t).take i)) (postsAt s n t).length (fun i acc hi hacc=>by
   obtain⟨B,y,h1,h2,h3,h4⟩:=blk_step (ps:=psS c s n t) (i:=i) (by omega)
   have hbl:(blk ((psS c s n t).take i)).length≤10000:=by rw [blk_len,List.length_take];omega
   refine⟨B++[⟨(postsAt s n t)[i].Doc,max y.Most ((pointsS c s n t (postsAt s n t)[i].Doc:Nat):Int)⟩],?_,?_⟩
   ·dsimp only
    rw [getI_at hi,Option.bind_some,rem_two,Option.bind_some,hacc]
    have hsplit:(cond (((i%2:Nat):Int)==(0:Int)) (Option.bind (catL 16 (blk ((psS c s n t).take i)) ([(GBlock.mk (0:Int) (0:Int))]:List GBlock)) fun x113=>(some x113)) (some (blk ((psS c s n t).take i))))=some (B++[y]):=by
     rw [←h1]
     by_cases h:i%2=0
     ·rw [if_pos h,beq_iff_eq.2 (by omega),cond_true,catLok (by rw [List.length_singleton];omega)];rfl
     ·rw [if_neg h,beq_eq_false_iff_ne.2 (by omega)];rfl
    rw [hsplit,Option.bind_some,last_at B y (by omega),get_last,Option.bind_some,impl_points F c s n t _ ho hF,Option.bind_some,Int.toNat_natCast,set_last,set_last]
    congr 4
    simp only [gt_iff_lt]
    split<;>omega
   ·rw [h2]
    congr 3<;>simp [psS]) (postsAt s n t).length 0 [] (by omega) rfl
 dsimp only at hr ⊢
 rw [hr,Option.bind_some,Option.bind_some,he,←hlen,List.take_length]
theorem spec_blocks (F:Nat)(c:GConf)(s:GSeg)(n t:Str)(ho:segOk c s=true)(hF:1000000000<F):M.spec_l14Blocks F s n t=some (blk (psS c s n t)):=by
 obtain⟨h1,h2,h3⟩:=seg_is ho
 have hfit:s.Entries.length≤10000:=by
  have:=(seg_fits (c:=c) h2).1
  rw [h3];omega
 have hpl:=(postsAt_fits ho n t).1
 unfold M.spec_l14Blocks
 rw [spec_findPosts F s n t hfit (by omega),Option.bind_some]
 have hlen:(psS c s n t).length=(postsAt s n t).length:=by unfold psS;rw [List.length_map]
 obtain⟨r,hr,he⟩:=whileM_run (σ:=(List GBlock)×Int) (τ:=List GBlock) (f:=(fun (s43:(List GBlock)×Int)=>(cond (decide (s43.2<((postsAt s n t).length:Int))) (Option.bind (getI (postsAt s n t) s43.2) fun x64=>(Option.bind (M.spec_l12Points F s n t x64.Doc) fun r78=>(Option.bind (remI s43.2 (2:Int)) fun x90=>(Option.bind ((cond (x90==(0:Int)) (Option.bind (catL 16 s43.1 ([(GBlock.mk (0:Int) (0:Int))]:List GBlock)) fun x115=>(some x115)) (some s43.1)):Option (List GBlock)) fun o93=>(Option.bind (getI (postsAt s n t) s43.2) fun x128=>(Option.bind (getI o93 (w64 ((o93.length:Int)-(1:Int)))) fun x142=>(Option.bind (getI (List.set o93 ((w64 ((o93.length:Int)-(1:Int)))).toNat (GBlock.mk x128.Doc x142.Most)) (w64 ((o93.length:Int)-(1:Int)))) fun x166=>(cond (decide (x166.Most<r78)) (Option.bind (getI (List.set o93 ((w64 ((o93.length:Int)-(1:Int)))).toNat (GBlock.mk x128.Doc x142.Most)) (w64 ((o93.length:Int)-(1:Int)))) fun x179=>(some (.inl ((List.set (List.set o93 ((w64 ((o93.length:Int)-(1:Int)))).toNat (GBlock.mk x128.Doc x142.Most)) ((w64 ((o93.length:Int)-(1:Int)))).toNat (GBlock.mk x179.Last r78)),(w64 (s43.2+(1:Int))))))) (some (.inl ((List.set o93 ((w64 ((o93.length:Int)-(1:Int)))).toNat (GBlock.mk x128.Doc x142.Most)),(w64 (s43.2+(1:Int)))))))))))))) (some (.inr s43.1)))))
  (Post:=fun t'=>t'=blk (psS c s n t)) (fun i st=>st=(blk ((psS c s n t).take i),(i:Int))) (postsAt s n t).length (fun i st hi hst=>by
   subst hst
   obtain⟨B,y,h1,h2,h3,h4⟩:=blk_step (ps:=psS c s n t) (i:=i) (by omega)
   have hbl:(blk ((psS c s n t).take i)).length≤10000:=by rw [blk_len,List.length_take];omega
   refine .inl ⟨(B++[⟨(postsAt s n t)[i].Doc,max y.Most ((pointsS c s n t (postsAt s n t)[i].Doc:Nat):Int)⟩],((i+1:Nat):Int)),?_,?_⟩
   ·dsimp only
    rw [decide_eq_true (by omega),cond_true,getI_at hi,Option.bind_some,spec_points F c s n t _ ho hF,Option.bind_some,rem_two,Option.bind_some]
    have hsplit:(cond (((i%2:Nat):Int)==(0:Int)) (Option.bind (catL 16 (blk ((psS c s n t).take i)) ([(GBlock.mk (0:Int) (0:Int))]:List GBlock)) fun x113=>(some x113)) (some (blk ((psS c s n t).take i))))=some (B++[y]):=by
     rw [←h1]
     by_cases h:i%2=0
     ·rw [if_pos h,beq_iff_eq.2 (by omega),cond_true,catLok (by rw [List.length_singleton];omega)];rfl
     ·rw [if_neg h,beq_eq_false_iff_ne.2 (by omega)];rfl
    rw [hsplit,Option.bind_some,Option.bind_some,last_at B y (by omega),get_last,Option.bind_some,Int.toNat_natCast,set_last,get_last,Option.bind_some,w64_succ' (by omega)]
    dsimp only
    by_cases hm:y.Most<((pointsS c s n t (postsAt s n t)[i].Doc:Nat):Int)
    ·rw [decide_eq_true hm,cond_true,Option.bind_some,set_last,Int.max_eq_right (by omega)]
    ·rw [decide_eq_false hm,cond_false,Int.max_eq_left (by omega)]
   ·rw [h2]
    congr 4<;>simp [psS]) (fun st hst=>by
   subst hst
   refine⟨_,by dsimp only;rw [decide_eq_false (by omega)];rfl,?_⟩
   rw [←hlen,List.take_length]) (postsAt s n t).length 0 (([]:List GBlock),(0:Int)) F (by omega) (by omega) rfl
 rw [hr,Option.bind_some,Option.bind_some,he]
def UpB (l:List GBlock):Prop:=l.Pairwise fun a b=>a.Last<b.Last
theorem blk_mem: ∀{ps:List (Int×Nat)} {b:GBlock},b∈blk ps→∃p∈ps,b.Last=p.1
 | [],b,h=>by cases h
 | [a],b,h=>by rcases List.mem_singleton.1 h with rfl;exact⟨a,List.mem_singleton.2 rfl,rfl⟩
 | a::a'::r,b,h=>by
  rw [blk] at h
  rcases List.mem_cons.1 h with rfl | h
  ·exact⟨a',by simp,rfl⟩
  ·obtain⟨p,hp,e⟩:=blk_mem h
   exact⟨p,by simp [hp],e⟩
theorem blk_up: ∀{ps:List (Int×Nat)},(ps.Pairwise fun a b=>a.1<b.1)→UpB (blk ps)
 | [],_=>List.Pairwise.nil
 | [a],_=>List.pairwise_singleton _ _
 | a::b::r,h=>by
  have h1:=(List.pairwise_cons.1 (List.pairwise_cons.1 h).2)
  rw [blk]
  refine List.pairwise_cons.2 ⟨fun x hx=>?_,blk_up h1.2⟩
  obtain⟨p,hp,e⟩:=blk_mem hx
  rw [e];exact h1.1 p hp
def boundS (l:List GBlock)(id:Int):Int:=(l.find? fun b=>decide (id≤b.Last)).elim 0 (·.Most)
theorem impl_boundAt (F:Nat)(l:List GBlock)(id:Int)(hu:UpB l)(hl:l.length≤100000)(hF:100000<F):M.impl_BoundAt F l id=some (boundS l id):=by
 unfold M.impl_BoundAt
 obtain⟨r,hr,he⟩:=whileM_run (σ:=Int) (τ:=Unit⊕Int) (f:=(fun (s14:Int)=>(cond (decide (s14<(l.length:Int))) (Option.bind (getI l (w64 (s14-(1:Int)))) fun x28=>(Option.bind (getI l s14) fun x39=>(cond (decide (x39.Last≤x28.Last)) (some (.inr (.inr (-1:Int)))) (some (.inl (w64 (s14+(1:Int)))))))) (some (.inr (.inl ()))))))
  (Post:=fun t=>t= .inl ()) (fun i s=>s=((i+1:Nat):Int)) (l.length-1) (fun i s hi hs=>by
   subst hs
   refine .inl ⟨_,?_,rfl⟩
   rw [decide_eq_true (by omega),cond_true,w64_pred (by omega) (by omega),Nat.add_sub_cancel,getI_at (show i<l.length by omega),Option.bind_some,getI_at (show i+1<l.length by omega),Option.bind_some]
   have:=List.pairwise_iff_getElem.1 hu i (i+1) (by omega) (by omega) (by omega)
   rw [decide_eq_false (by omega),cond_false,w64_succ' (by omega)]) (fun s hs=>by
   subst hs
   exact⟨_,by rw [decide_eq_false (by omega)];rfl,rfl⟩) (l.length-1) 0 (1:Int) F (by omega) (by omega) rfl
 rw [hr,Option.bind_some,he]
 simp only [Sum.elim_inl,Option.bind_some]
 rw [find_from (xs:=l) (fun b=>decide (id≤b.Last)) (fun b=>b.Most) (fun i x hx=>by
  rw [getI_nat',hx,Option.bind_some];cases decide (id≤x.Last)<;>rfl)]
 unfold boundS
 cases l.find? (fun b=>decide (id≤b.Last))<;>rfl
end Go.Fk
set_option linter.unusedVariables false
set_option maxRecDepth 100000
namespace Go.Fk
open Go
theorem ps_up {c:GConf}{s:GSeg}(ho:segOk c s=true)(n t:Str):(psS c s n t).Pairwise fun a b=>a.1<b.1:=by
 obtain⟨h1,h2,h3⟩:=seg_is ho
 unfold psS
 refine List.pairwise_map.2 ?_
 rw [h3,postsAt_seg]
 have key: ∀docs:List GDoc,(docs.Pairwise fun a b=>a.Id<b.Id)→(docs.flatMap (docPost c n t)).Pairwise fun a b=>a.Doc<b.Doc:=fun docs=>by
  induction docs with
  | nil=>intro _;exact List.Pairwise.nil
  | cons d r ih=>
   intro hp
   have hc:=List.pairwise_cons.1 hp
   rw [List.flatMap_cons]
   refine List.pairwise_append.2 ⟨?_,ih hc.2,fun a ha b hb=>?_⟩
   ·unfold docPost;split
    ·exact List.pairwise_singleton _ _
    ·exact List.Pairwise.nil
   ·obtain⟨e,he,hb⟩:=List.mem_flatMap.1 hb
    have ha':a.Doc=d.Id:=by
     unfold docPost at ha;split at ha
     ·rcases List.mem_singleton.1 ha with rfl;rfl
     ·cases ha
    have hb':b.Doc=e.Id:=by
     unfold docPost at hb;split at hb
     ·rcases List.mem_singleton.1 hb with rfl;rfl
     ·cases hb
    rw [ha',hb'];exact hc.1 e he
 exact key s.Docs (docs_ids h2).2.2
end Go.Fk
