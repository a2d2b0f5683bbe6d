import Derived.Test.YtfiahfncijjliaaGreatDoorLawBase
/-
  What the reference makes of documents: the segment. Of no program.
-/
set_option linter.unusedVariables false
namespace Go.Fk
open Go
theorem spec_put (F:Nat)(l:List Str)(s:Str)(hl:l.length≤1000000)(hF:l.length<F):M.spec_l7Put F l s=some (insS s l):=by
 unfold M.spec_l7Put
 have hw: ∀f,(∀(i:Nat) x,l[i]? =some x→f (i:Int)=some (if strLess x s then .inl ((i+1:Nat):Int) else .inr (i:Int)))→f (l.length:Int)=some (.inr (l.length:Int))→whileM f F (0:Int)=some ((rankS s l:Nat):Int):=fun f a b=>by
  have:=rank_whileS (f:=f) a b l.length 0 F (by omega) (by omega)
  rwa [List.drop_zero,Nat.zero_add] at this
 rw [hw _ (fun i x hx=>?_) ?_]
 ·have hr:=rankS_le s l
  have c1:subL l 0 ((rankS s l:Nat):Int)=some (l.take (rankS s l)):=by
   unfold subL
   rw [if_pos ⟨by omega,by omega,by omega⟩]
   simp
  have c2:subL l ((rankS s l:Nat):Int) (l.length:Int)=some (l.drop (rankS s l)):=subL_tail hr
  have l1:(l.take (rankS s l)).length≤1000000:=by simp;omega
  have l2:(l.drop (rankS s l)).length≤1000000:=by simp;omega
  have l0:([]:List Str).length=0:=rfl
  have hc:(cond (decide (((rankS s l:Nat):Int)<(l.length:Int))) (Option.bind (getI l ((rankS s l:Nat):Int)) fun x57=>some (x57==s)) (some false))=some ((l[rankS s l]?).elim false fun x=>x==s):=by
   rcases Nat.lt_or_ge (rankS s l) l.length with h | h
   ·rw [decide_eq_true (by omega),cond_true,getI_nat',List.getElem?_eq_getElem h];rfl
   ·rw [decide_eq_false (by omega),List.getElem?_eq_none h];rfl
  rw [Option.bind_some,Option.bind_some,hc,Option.bind_some,insS_cut,if_bif]
  cases (l[rankS s l]?).elim false fun x=>x==s
  ·simp only [cond_false]
   rw [c1,Option.bind_some,catLok (by omega),List.nil_append,Option.bind_some,catLok (by simp only [List.length_singleton];omega),Option.bind_some,c2,Option.bind_some,
    catLok (by simp only [List.length_append,List.length_singleton];omega),Option.bind_some]
  ·rfl
 ·rw [decide_eq_false (by omega)];rfl
 ·have hi:=(List.getElem?_eq_some_iff.1 hx).1
  rw [decide_eq_true (by omega),cond_true,getI_nat',hx,Option.bind_some,Option.bind_some,w64_succ' (by omega)]
  cases strLess x s<;>rfl
def fieldS (d:GDoc)(n:Str):Str:=(d.Fields.find? fun f=>f.Name==n).elim [] (·.Text)
def putsS (a:List Str)(ts:List GTerm):List Str:=ts.foldl (fun a t=>insS t.Text a) a
def namesS (docs:List GDoc):List Str:=docs.foldl (fun a d=>d.Fields.foldl (fun a f=>insS f.Name a) a) []
def ftermsS (c:GConf)(docs:List GDoc)(n:Str):List Str:=docs.foldl (fun a d=>putsS a (termsS c (fieldS d n))) []
def postS (c:GConf)(d:GDoc)(n t:Str):List Int:=(termsS c (fieldS d n)).flatMap fun x=>if x.Text==t then [x.At] else []
def docPost (c:GConf)(n t:Str)(d:GDoc):List GPost:=if decide (0<(postS c d n t).length) then [⟨d.Id,postS c d n t⟩] else []
def entryS (c:GConf)(docs:List GDoc)(n t:Str):GEntry:=⟨n,t,docs.flatMap (docPost c n t)⟩
def segS (c:GConf)(docs:List GDoc):GSeg:=⟨docs,(namesS docs).flatMap fun n=>(ftermsS c docs n).map (entryS c docs n)⟩
theorem field_len {d:GDoc}(hd:DocFit d)(n:Str):(fieldS d n).length≤1000:=by
 unfold fieldS
 cases h:d.Fields.find? fun f=>f.Name==n with
 | none=>simp
 | some f=>exact(hd.field f (List.mem_of_find?_eq_some h)).2
theorem spec_field (F:Nat)(d:GDoc)(n:Str)(hd:DocFit d)(hF:200<F):M.spec_l6Field F d n=some (fieldS d n):=by
 have h1:=hd.fields
 unfold M.spec_l6Field
 rw [find_while (xs:=d.Fields) (fun f=>f.Name==n) (fun f=>(Sum.inr f.Text:Unit⊕Str)) (e:=Sum.inl ()) F (by omega) (fun i x hx=>?_) ?_]
 ·unfold fieldS
  cases d.Fields.find? fun f=>f.Name==n<;>rfl
 ·rw [decide_eq_false (by omega)];rfl
 ·have hi:=(List.getElem?_eq_some_iff.1 hx).1
  rw [decide_eq_true (by omega),cond_true,getI_nat',hx,Option.bind_some,Option.bind_some,w64_succ' (by omega),if_bif]
  cases x.Name==n<;>rfl
theorem spec_names (F:Nat)(docs:List GDoc)(hd:DocsFit docs)(hF:200000<F):M.spec_l7Names F docs=some (namesS docs)∧(namesS docs).length≤10000:=by
 have hfew:=hd.few
 unfold M.spec_l7Names namesS
 have key:=fold_while (xs:=docs) (fun a d=>d.Fields.foldl (fun a f=>insS f.Name a) a) (fun i (a:List Str)=>a.length≤i*100) id (fun a i=>(a,i))
  (f:=fun s22=>(cond (decide (s22.2<(docs.length:Int))) (Option.bind ((Option.bind (whileM (σ:=(List Str)×Int) (τ:=(List Str)) (fun (s51:(List Str)×Int)=>(Option.bind (getI docs s22.2) fun x67=>(cond (decide (s51.2<(x67.Fields.length:Int))) (Option.bind (getI docs s22.2) fun x87=>(Option.bind (getI x87.Fields s51.2) fun x105=>(Option.bind (M.spec_l7Put F s51.1 x105.Name) fun r116=>(some (.inl (r116,(w64 (s51.2+(1:Int))))))))) (some (.inr s51.1))))) F (s22.1,(0:Int))) fun r52=>(some r52)):Option (List Str)) fun o40=>(some (.inl (o40,(w64 (s22.2+(1:Int))))))) (some (.inr s22.1))))
  [] rfl F (by omega) (by simp) (fun i d a hx ha=>?_) (fun a ha=>?_)
 ·obtain⟨k1,k2⟩:=key
  refine⟨?_,?_⟩
  ·rw [k1];rfl
  ·have:docs.length*100≤10000:=by omega
   omega
 ·have hi:=(List.getElem?_eq_some_iff.1 hx).1
  have hdd:=hd.doc d (List.mem_of_getElem? hx)
  have hfl:=hdd.fields
  have inner:=fold_while (xs:=d.Fields) (fun a (f:GField)=>insS f.Name a) (fun j (b:List Str)=>b.length≤i*100+j) id (fun a i=>(a,i))
   (f:=fun (s51:(List Str)×Int)=>(Option.bind (getI docs (i:Int)) fun x67=>(cond (decide (s51.2<(x67.Fields.length:Int))) (Option.bind (getI docs (i:Int)) fun x87=>(Option.bind (getI x87.Fields s51.2) fun x105=>(Option.bind (M.spec_l7Put F s51.1 x105.Name) fun r116=>(some (.inl (r116,(w64 (s51.2+(1:Int))))))))) (some (.inr s51.1)))))
   a rfl F (by omega) (by omega) (fun j f b hf hb=>?_) (fun b hb=>?_)
  ·obtain⟨k1,k2⟩:=inner
   refine⟨?_,by omega⟩
   simp only
   rw [decide_eq_true (by omega),cond_true,k1,Option.bind_some,Option.bind_some,w64_succ' (by omega)]
   rfl
  ·have hj:=(List.getElem?_eq_some_iff.1 hf).1
   have hil:=insS_len f.Name b
   refine⟨?_,by omega⟩
   simp only
   rw [getI_nat',hx,Option.bind_some,decide_eq_true (by omega),cond_true,Option.bind_some,getI_nat',hf,Option.bind_some,spec_put F b _ (by omega) (by omega),Option.bind_some,w64_succ' (by omega)]
  ·simp only
   rw [getI_nat',hx,Option.bind_some,decide_eq_false (by omega)];rfl
 ·simp only
  rw [decide_eq_false (by omega)];rfl
theorem fold_inv {α σ:Type}{g:σ→α→σ}(I:Nat→σ→Prop): ∀(xs:List α) (i:Nat) (s:σ),I i s→(∀i x s,x∈xs→I i s→I (i+1) (g s x))→I (i+xs.length) (xs.foldl g s)
 | [],i,s,h,_=>h
 | x::r,i,s,h,hg=>by
  rw [List.foldl_cons,List.length_cons,show i+(r.length+1)=i+1+r.length by omega]
  exact fold_inv I r (i+1) _ (hg i x s (by simp) h) fun i y s hy=>hg i y s (by simp [hy])
theorem puts_len (ts:List GTerm)(a:List Str):(putsS a ts).length≤a.length+ts.length:=by
 have:=fold_inv (g:=fun a (t:GTerm)=>insS t.Text a) (fun i b=>b.length≤a.length+i) ts 0 a (by omega) (fun i t b _ hb=>by have:=insS_len t.Text b;show (insS t.Text b).length≤_;omega)
 unfold putsS;omega
theorem fterm_one {c:GConf}{d:GDoc}(hd:DocFit d)(n:Str):(termsS c (fieldS d n)).length≤1000:=by
 have:=terms_len c (fieldS d n)
 have:=field_len hd n
 omega
theorem fterms_len (c:GConf){docs:List GDoc}(hd:DocsFit docs)(n:Str):(ftermsS c docs n).length≤100000:=by
 have hfew:=hd.few
 have:=fold_inv (g:=fun a d=>putsS a (termsS c (fieldS d n))) (fun i b=>b.length≤i*1000) docs 0 [] (by simp) (fun i d b hm hb=>by have:=puts_len (termsS c (fieldS d n)) b;have:=fterm_one (c:=c) (hd.doc d hm) n;show (putsS b _).length≤_;omega)
 unfold ftermsS;omega
theorem spec_fterms (F:Nat)(c:GConf)(docs:List GDoc)(n:Str)(hc:confS c=true)(hd:DocsFit docs)(hF:200000<F):M.spec_l7Terms F c docs n=some (ftermsS c docs n):=by
 have hfew:=hd.few
 unfold M.spec_l7Terms ftermsS
 rw [(fold_while (xs:=docs) (fun a d=>putsS a (termsS c (fieldS d n))) (fun i (a:List Str)=>a.length≤i*1000) id (fun a i=>(a,i)) [] rfl F (by omega) (by simp) (fun i d a hx ha=>?_) (fun a ha=>?_)).1]
 ·rfl
 ·have hi:=(List.getElem?_eq_some_iff.1 hx).1
  have hdd:=hd.doc d (List.mem_of_getElem? hx)
  have hfl:=field_len hdd n
  have hone:=fterm_one (c:=c) hdd n
  refine⟨?_,?_⟩
  ·simp only
   rw [decide_eq_true (by omega),cond_true,getI_nat',hx,Option.bind_some,spec_field F d n hdd (by omega),Option.bind_some,spec_terms F c _ hc (by omega) (by omega),Option.bind_some]
   rw [(fold_while (xs:=termsS c (fieldS d n)) (fun a (t:GTerm)=>insS t.Text a) (fun j (b:List Str)=>b.length≤i*1000+j) id (fun a i=>(a,i)) a rfl F (by omega) (by rw [Nat.add_zero];exact ha) (fun j t b ht hb=>?_) (fun b hb=>?_)).1,Option.bind_some,Option.bind_some,w64_succ' (by omega)]
   ·rfl
   ·have hj:=(List.getElem?_eq_some_iff.1 ht).1
    have hil:=insS_len t.Text b
    refine⟨?_,by omega⟩
    simp only
    rw [decide_eq_true (by omega),cond_true,getI_nat',ht,Option.bind_some,spec_put F b _ (by omega) (by omega),Option.bind_some,w64_succ' (by omega)]
   ·simp only
    rw [decide_eq_false (by omega)];rfl
  ·have:=puts_len (termsS c (fieldS d n)) a
   omega
 ·simp only
  rw [decide_eq_false (by omega)];rfl
theorem post_len {c:GConf}{d:GDoc}(hd:DocFit d)(n t:Str):(postS c d n t).length≤1000:=by
 have h1:=flat_le (g:=fun x:GTerm=>if x.Text==t then [x.At] else []) (m:=1) (termsS c (fieldS d n)) (fun x _=>by split<;>simp)
 have h2:=fterm_one (c:=c) hd n
 unfold postS;omega
theorem spec_post (F:Nat)(c:GConf)(d:GDoc)(n t:Str)(hc:confS c=true)(hd:DocFit d)(hF:200000<F):M.spec_l7Post F c d n t=some (postS c d n t):=by
 have hfl:=field_len hd n
 have hone:=fterm_one (c:=c) hd n
 have hpl:=post_len (c:=c) hd n t
 unfold M.spec_l7Post
 rw [spec_field F d n hd (by omega),Option.bind_some,spec_terms F c _ hc (by omega) (by omega),Option.bind_some]
 rw [fm_while (xs:=termsS c (fieldS d n)) (fun x:GTerm=>if x.Text==t then [x.At] else []) 1000 F (by omega) (fun i x acc hx hB=>?_) (fun acc=>?_) [] (by rw [List.nil_append];exact hpl),List.nil_append,Option.bind_some,Option.bind_some]
 ·rfl
 ·have hi:=(List.getElem?_eq_some_iff.1 hx).1
  rw [decide_eq_true (by omega),cond_true,getI_nat',hx,Option.bind_some,Option.bind_some,w64_succ' (by omega)]
  revert hB
  rw [if_bif]
  cases x.Text==t
  ·intro _;simp
  ·intro hB
   simp only [cond_true] at hB ⊢
   rw [catLok (by simp at hB ⊢;omega)];rfl
 ·rw [decide_eq_false (by omega)];rfl
theorem docPost_one (c:GConf)(n t:Str)(d:GDoc):(docPost c n t d).length≤1:=by unfold docPost;split<;>simp
theorem spec_entry (F:Nat)(c:GConf)(docs:List GDoc)(n t:Str)(hc:confS c=true)(hd:DocsFit docs)(hF:200000<F):M.spec_l7Entry F c docs n t=some (entryS c docs n t):=by
 have hfew:=hd.few
 unfold M.spec_l7Entry
 have hfold:entryS c docs n t=docs.foldl (fun e d=>GEntry.mk e.Field e.Term (e.Posts++docPost c n t d)) (GEntry.mk n t []):=by
  have gen: ∀(l:List GDoc) (ps:List GPost),l.foldl (fun e d=>GEntry.mk e.Field e.Term (e.Posts++docPost c n t d)) (GEntry.mk n t ps)=GEntry.mk n t (ps++l.flatMap (docPost c n t)):=by
   intro l
   induction l with
   | nil=>intro ps;simp
   | cons d r ih=>intro ps;rw [List.foldl_cons,ih,List.flatMap_cons,List.append_assoc]
  rw [gen];rfl
 rw [hfold]
 rw [(fold_while (xs:=docs) (fun e d=>GEntry.mk e.Field e.Term (e.Posts++docPost c n t d)) (fun i (e:GEntry)=>e.Posts.length≤i∧e.Field=n∧e.Term=t) id (fun e i=>(i,e)) (GEntry.mk n t []) rfl F (by omega) ⟨by simp,rfl,rfl⟩ (fun i d e hx ⟨he,e1,e2⟩=>?_) (fun a ha=>?_)).1]
 ·rfl
 ·have hi:=(List.getElem?_eq_some_iff.1 hx).1
  have hdd:=hd.doc d (List.mem_of_getElem? hx)
  have hp1:=docPost_one c n t d
  refine⟨?_,by simp only [List.length_append];omega,e1,e2⟩
  simp only
  rw [decide_eq_true (by omega),cond_true,getI_nat',hx,Option.bind_some,spec_post F c d n t hc hdd hF,Option.bind_some,Option.bind_some,w64_succ' (by omega)]
  unfold docPost
  by_cases h0:0<(postS c d n t).length
  ·rw [decide_eq_true (by omega),cond_true,catLok (by simp only [List.length_singleton];omega),Option.bind_some,decide_eq_true h0,if_pos rfl]
  ·rw [decide_eq_false (by omega),cond_false,decide_eq_false h0,if_neg (by simp),List.append_nil]
 ·simp only
  rw [decide_eq_false (by omega)];rfl
theorem names_len {docs:List GDoc}(hd:DocsFit docs):(namesS docs).length≤10000:=(spec_names 200001 docs hd (by omega)).2
theorem seg_flat {c:GConf}{docs:List GDoc}{ns:List Str}: ∀(l:List Str) (es:List GEntry),l.foldl (fun s n=>(ftermsS c docs n).foldl (fun s t=>GSeg.mk s.Docs (s.Entries++[entryS c docs n t])) s) (GSeg.mk [] es)=GSeg.mk [] (es++l.flatMap fun n=>(ftermsS c docs n).map (entryS c docs n)):=by
 intro l
 induction l with
 | nil=>intro es;simp
 | cons n r ih=>
  intro es
  have inner: ∀(ts:List Str) (es:List GEntry),ts.foldl (fun s t=>GSeg.mk s.Docs (s.Entries++[entryS c docs n t])) (GSeg.mk [] es)=GSeg.mk [] (es++ts.map (entryS c docs n)):=by
   intro ts
   induction ts with
   | nil=>intro es;simp
   | cons t r ih=>intro es;rw [List.foldl_cons,ih,List.map_cons,List.append_assoc];rfl
  rw [List.foldl_cons,inner,ih,List.flatMap_cons,List.append_assoc]
theorem docs_flat {es:List GEntry}: ∀(l ds:List GDoc),l.foldl (fun s d=>GSeg.mk (s.Docs++[d]) s.Entries) (GSeg.mk ds es)=GSeg.mk (ds++l) es:=by
 intro l
 induction l with
 | nil=>intro ds;simp
 | cons d r ih=>intro ds;rw [List.foldl_cons,ih,List.append_assoc];rfl
theorem spec_seg (F:Nat)(c:GConf)(docs:List GDoc)(hc:confS c=true)(hd:DocsFit docs)(hF:200000<F):M.spec_l7Of F c docs=some (segS c docs):=by
 have hfew:=hd.few
 have hnl:=names_len hd
 unfold M.spec_l7Of
 rw [(spec_names F docs hd hF).1,Option.bind_some]
 rw [(fold_while (xs:=namesS docs) (fun s n=>(ftermsS c docs n).foldl (fun s t=>GSeg.mk s.Docs (s.Entries++[entryS c docs n t])) s) (fun i (s:GSeg)=>s.Entries.length≤i*100000) id (fun e i=>(i,e)) (GSeg.mk [] []) rfl F (by omega) (by simp) (fun i n s hx hs=>?_) (fun a ha=>?_)).1]
 ·rw [seg_flat (ns:=[]),Option.bind_some,Option.bind_some]
  rw [(fold_while (xs:=docs) (fun s d=>GSeg.mk (s.Docs++[d]) s.Entries) (fun i (s:GSeg)=>s.Docs.length≤i) id (fun e i=>(i,e)) _ rfl F (by omega) (by simp) (fun i d s hx hs=>?_) (fun a ha=>?_)).1]
  ·rw [docs_flat,Option.bind_some,Option.bind_some];rfl
  ·have hi:=(List.getElem?_eq_some_iff.1 hx).1
   have hdd:=hd.doc d (List.mem_of_getElem? hx)
   have hf1:=hdd.fields
   have hf2:=hdd.nums
   refine⟨?_,by simp only [List.length_append,List.length_singleton];omega⟩
   simp only
   rw [decide_eq_true (by omega),cond_true,getI_nat',hx,Option.bind_some,spec_clone F d (by omega) (by omega),Option.bind_some,catLok (by simp only [List.length_singleton];omega),Option.bind_some,w64_succ' (by omega)]
  ·simp only
   rw [decide_eq_false (by omega)];rfl
 ·have hi:=(List.getElem?_eq_some_iff.1 hx).1
  have hft:=fterms_len c hd n
  have inner:=fold_inv (g:=fun s t=>GSeg.mk s.Docs (s.Entries++[entryS c docs n t])) (fun j (b:GSeg)=>b.Entries.length≤i*100000+j) (ftermsS c docs n) 0 s (by rw [Nat.add_zero];exact hs) (fun j t b _ hb=>by simp only [List.length_append,List.length_singleton];omega)
  refine⟨?_,by omega⟩
  simp only
  rw [decide_eq_true (by omega),cond_true,getI_nat',hx,Option.bind_some,spec_fterms F c docs n hc hd hF,Option.bind_some]
  rw [(fold_while (xs:=ftermsS c docs n) (fun s t=>GSeg.mk s.Docs (s.Entries++[entryS c docs n t])) (fun j (b:GSeg)=>b.Entries.length≤i*100000+j) id (fun e i=>(i,e)) s rfl F (by omega) (by rw [Nat.add_zero];exact hs) (fun j t b ht hb=>?_) (fun b hb=>?_)).1,Option.bind_some,Option.bind_some,w64_succ' (by omega)]
  ·rfl
  ·have hj:=(List.getElem?_eq_some_iff.1 ht).1
   refine⟨?_,by simp only [List.length_append,List.length_singleton];omega⟩
   simp only
   rw [decide_eq_true (by omega),cond_true,Option.bind_some,getI_nat',ht,Option.bind_some,spec_entry F c docs n t hc hd hF,Option.bind_some,catLok (by simp only [List.length_singleton];omega),Option.bind_some,w64_succ' (by omega)]
  ·simp only
   rw [decide_eq_false (by omega)];rfl
 ·simp only
  rw [decide_eq_false (by omega)];rfl
end Go.Fk
set_option linter.unusedVariables false
namespace Go.Fk
open Go
abbrev Occ:=(Str×Str)×(Int×Int)
def addPost (ps:List GPost)(id:Int)(at_:Int):List GPost:=
 match (if needPost ps id then ps++[GPost.mk id []] else ps).getLast? with
 | none=>[]
 | some p=>(if needPost ps id then ps++[GPost.mk id []] else ps).dropLast++[GPost.mk p.Doc (p.At++[at_])]
def putS (o:Occ):List GEntry→List GEntry
 | []=>[⟨o.1.1,o.1.2,addPost [] o.2.1 o.2.2⟩]
 | e::r=>if e.Field==o.1.1&&e.Term==o.1.2 then ⟨e.Field,e.Term,addPost e.Posts o.2.1 o.2.2⟩::r else e::putS o r
def addKey (k:Str×Str):List (Str×Str)→List (Str×Str)
 | []=>[k]
 | x::r=>if x==k then x::r else x::addKey k r
def keysOf (os:List Occ):List (Str×Str):=os.foldl (fun ks o=>addKey o.1 ks) []
def postsOf (l:List (Int×Int)):List GPost:=l.foldl (fun ps q=>addPost ps q.1 q.2) []
def mkE (os:List Occ)(k:Str×Str):GEntry:=⟨k.1,k.2,postsOf ((os.filter fun o=>o.1==k).map (·.2))⟩
theorem mem_addKey {k x:Str×Str}: ∀{l:List (Str×Str)},x∈addKey k l↔x=k∨x∈l
 | []=>by simp [addKey]
 | a::l=>by
  unfold addKey
  split
  ·rename_i h
   have:=eq_of_beq h
   subst this
   rw [List.mem_cons]
   constructor
   ·rintro (h | h)<;>simp [h]
   ·rintro (h | h | h)<;>simp [h]
  ·rw [List.mem_cons,mem_addKey (l:=l),List.mem_cons]
   constructor
   ·rintro (h1 | h1 | h1)<;>simp [h1]
   ·rintro (h1 | h1 | h1)<;>simp [h1]
theorem addKey_nodup {k:Str×Str}: ∀{l:List (Str×Str)},l.Nodup→(addKey k l).Nodup
 | [],_=>by simp [addKey]
 | a::l,h=>by
  have hc:=List.nodup_cons.1 h
  unfold addKey
  split
  ·exact h
  ·rename_i hne
   refine List.nodup_cons.2 ⟨fun hm=>?_,addKey_nodup hc.2⟩
   rcases mem_addKey.1 hm with e | hm
   ·exact hne (by simp [e])
   ·exact hc.1 hm
theorem addKey_new {k:Str×Str}: ∀{l:List (Str×Str)},k∉l→addKey k l=l++[k]
 | [],_=>rfl
 | a::l,h=>by
  have h1:(a==k)=false:=beq_eq_false_iff_ne.2 fun e=>h (by simp [e])
  unfold addKey
  rw [h1,if_neg (by simp),addKey_new (l:=l) (fun hm=>h (by simp [hm]))];rfl
theorem addKey_old {k:Str×Str}: ∀{l:List (Str×Str)},k∈l→addKey k l=l
 | [],h=>by cases h
 | a::l,h=>by
  unfold addKey
  split
  ·rfl
  ·rename_i hne
   rcases List.mem_cons.1 h with e | h
   ·exact absurd (by simp [e]) hne
   ·rw [addKey_old h]
theorem keysOf_snoc (os:List Occ)(o:Occ):keysOf (os++[o])=addKey o.1 (keysOf os):=by
 unfold keysOf;rw [List.foldl_append];rfl
theorem keys_spec: ∀(l pre:List Occ),((keysOf pre).Nodup∧∀k,k∈keysOf pre↔∃o∈pre,o.1=k)→(keysOf (pre++l)).Nodup∧∀k,k∈keysOf (pre++l)↔∃o∈pre++l,o.1=k
 | [],pre,h=>by rw [List.append_nil];exact h
 | o::l,pre,⟨h1,h2⟩=>by
  rw [show pre++o::l=(pre++[o])++l by simp]
  refine keys_spec l (pre++[o]) ⟨?_,fun k=>?_⟩
  ·rw [keysOf_snoc];exact addKey_nodup h1
  ·rw [keysOf_snoc,mem_addKey,h2]
   constructor
   ·rintro (rfl | ⟨q,hq,e⟩)
    ·exact⟨o,by simp,rfl⟩
    ·exact⟨q,by simp [hq],e⟩
   ·rintro⟨q,hq,e⟩
    rcases List.mem_append.1 hq with hq | hq
    ·exact .inr ⟨q,hq,e⟩
    ·rw [List.mem_singleton] at hq;subst hq;exact .inl e.symm
theorem keys_ok (os:List Occ):(keysOf os).Nodup∧∀k,k∈keysOf os↔∃o∈os,o.1=k:=by
 have:=keys_spec os [] ⟨List.nodup_nil,by simp [keysOf]⟩
 simpa using this
theorem mkE_snoc (os:List Occ)(o:Occ)(k:Str×Str):mkE (os++[o]) k=if o.1==k then ⟨k.1,k.2,addPost (mkE os k).Posts o.2.1 o.2.2⟩ else mkE os k:=by
 unfold mkE
 rw [List.filter_append]
 cases h:o.1==k
 ·rw [List.filter_cons,h];simp
 ·rw [List.filter_cons,h];simp [postsOf,List.foldl_append]
theorem put_old {os:List Occ}{o:Occ}: ∀{ks:List (Str×Str)},ks.Nodup→o.1∈ks→putS o (ks.map (mkE os))=ks.map (mkE (os++[o]))
 | [],_,h=>by cases h
 | k::ks,hn,h=>by
  have hc:=List.nodup_cons.1 hn
  have hpick:((mkE os k).Field==o.1.1&&(mkE os k).Term==o.1.2)=(k==o.1):=rfl
  rw [List.map_cons,List.map_cons,putS,hpick]
  by_cases he:k=o.1
  ·subst he
   rw [beq_self_eq_true,if_pos rfl,mkE_snoc,beq_self_eq_true,if_pos rfl]
   congr 1
   refine List.map_congr_left fun x hx=>?_
   have:(o.1==x)=false:=beq_eq_false_iff_ne.2 fun e=>hc.1 (e▸hx)
   rw [mkE_snoc,this,if_neg (by simp)]
  ·have h1:(k==o.1)=false:=beq_eq_false_iff_ne.2 he
   have h2:(o.1==k)=false:=beq_eq_false_iff_ne.2 fun e=>he e.symm
   rw [h1,if_neg (by simp),mkE_snoc,h2,if_neg (by simp)]
   congr 1
   rcases List.mem_cons.1 h with e | h
   ·exact absurd e.symm he
   ·exact put_old hc.2 h
theorem put_app {o:Occ}: ∀{es:List GEntry},(∀e∈es,(e.Field==o.1.1&&e.Term==o.1.2)=false)→putS o es=es++[⟨o.1.1,o.1.2,addPost [] o.2.1 o.2.2⟩]
 | [],_=>rfl
 | e::es,h=>by
  rw [putS,h e (by simp),if_neg (by simp),put_app (fun e he=>h e (by simp [he]))];rfl
theorem put_new {os:List Occ}{o:Occ}{ks:List (Str×Str)}(h:o.1∉ks)(hos: ∀q∈os,q.1∈ks):putS o (ks.map (mkE os))=(ks++[o.1]).map (mkE (os++[o])):=by
 rw [put_app (fun e he=>?_),List.map_append]
 ·congr 1
  ·refine List.map_congr_left fun x hx=>?_
   have:(o.1==x)=false:=beq_eq_false_iff_ne.2 fun e=>h (e▸hx)
   rw [mkE_snoc,this,if_neg (by simp)]
  ·rw [List.map_singleton,mkE_snoc,beq_self_eq_true,if_pos rfl]
   have:os.filter (fun q=>q.1==o.1)=[]:=List.filter_eq_nil_iff.2 fun q hq e=>h (by have:=eq_of_beq e;rw [←this];exact hos q hq)
   simp [mkE,this,postsOf]
 ·obtain⟨k,hk,rfl⟩:=List.mem_map.1 he
  show (k==o.1)=false
  exact beq_eq_false_iff_ne.2 fun e=>h (e▸hk)
theorem puts_gen: ∀(l pre:List Occ),l.foldl (fun es o=>putS o es) ((keysOf pre).map (mkE pre))=(keysOf (pre++l)).map (mkE (pre++l))
 | [],pre=>by rw [List.append_nil];rfl
 | o::l,pre=>by
  have hk:=keys_ok pre
  have hst:putS o ((keysOf pre).map (mkE pre))=(keysOf (pre++[o])).map (mkE (pre++[o])):=by
   rw [keysOf_snoc]
   by_cases h:o.1∈keysOf pre
   ·rw [addKey_old h,put_old hk.1 h]
   ·rw [addKey_new h,put_new h fun q hq=>(hk.2 _).2 ⟨q,hq,rfl⟩]
  rw [List.foldl_cons,hst,puts_gen l (pre++[o]),show pre++[o]++l=pre++o::l by simp]
theorem puts_all (os:List Occ):os.foldl (fun es o=>putS o es) []=(keysOf os).map (mkE os):=by
 have:=puts_gen os []
 simpa [keysOf] using this
end Go.Fk
set_option linter.unusedVariables false
namespace Go.Fk
open Go
theorem terms_nil (c:GConf):termsS c []=[]:=by
 have h:=terms_len c []
 exact List.eq_nil_of_length_eq_zero (by simp at h;simp [h])
theorem fold_mem {α:Type}(h:α→Str){x:Str}: ∀(l:List α) (a:List Str),x∈l.foldl (fun a y=>insS (h y) a) a↔x∈a∨∃y∈l,h y=x
 | [],a=>by simp
 | y::r,a=>by
  rw [List.foldl_cons,fold_mem h r,mem_insS]
  constructor
  ·rintro ((rfl | h1) | ⟨z,hz,e⟩)
   ·exact .inr ⟨y,by simp,rfl⟩
   ·exact .inl h1
   ·exact .inr ⟨z,by simp [hz],e⟩
  ·rintro (h1 | ⟨z,hz,e⟩)
   ·exact .inl (.inr h1)
   ·rcases List.mem_cons.1 hz with rfl | hz
    ·exact .inl (.inl e.symm)
    ·exact .inr ⟨z,hz,e⟩
theorem fold_sorted {α:Type}(h:α→Str): ∀(l:List α) (a:List Str),SortS a→SortS (l.foldl (fun a y=>insS (h y) a) a)
 | [],a,ha=>ha
 | y::r,a,ha=>by rw [List.foldl_cons];exact fold_sorted h r _ (insS_sorted ha)
theorem names_gen (n:Str): ∀(docs:List GDoc) (a:List Str),(SortS a→SortS (docs.foldl (fun a d=>d.Fields.foldl (fun a f=>insS f.Name a) a) a))∧(n∈docs.foldl (fun a d=>d.Fields.foldl (fun a f=>insS f.Name a) a) a↔n∈a∨∃d∈docs,∃f∈d.Fields,f.Name=n)
 | [],a=>by simp
 | d::r,a=>by
  have ih:=names_gen n r (d.Fields.foldl (fun a f=>insS f.Name a) a)
  rw [List.foldl_cons]
  refine⟨fun h=>ih.1 (fold_sorted (fun f:GField=>f.Name) _ _ h),?_⟩
  rw [ih.2,fold_mem (fun f:GField=>f.Name)]
  constructor
  ·rintro ((h | h) | ⟨e,he,h⟩)
   ·exact .inl h
   ·exact .inr ⟨d,by simp,h⟩
   ·exact .inr ⟨e,by simp [he],h⟩
  ·rintro (h | ⟨e,he,h⟩)
   ·exact .inl (.inl h)
   ·rcases List.mem_cons.1 he with rfl | he
    ·exact .inl (.inr h)
    ·exact .inr ⟨e,he,h⟩
theorem mem_names {docs:List GDoc}{n:Str}:n∈namesS docs↔∃d∈docs,∃f∈d.Fields,f.Name=n:=by
 have:=(names_gen n docs []).2
 simpa [namesS] using this
theorem names_sorted (docs:List GDoc):SortS (namesS docs):=(names_gen [] docs []).1 List.Pairwise.nil
theorem fterms_gen (c:GConf)(n t:Str): ∀(docs:List GDoc) (a:List Str),(SortS a→SortS (docs.foldl (fun a d=>putsS a (termsS c (fieldS d n))) a))∧(t∈docs.foldl (fun a d=>putsS a (termsS c (fieldS d n))) a↔t∈a∨∃d∈docs,∃x∈termsS c (fieldS d n),x.Text=t)
 | [],a=>by simp
 | d::r,a=>by
  have ih:=fterms_gen c n t r (putsS a (termsS c (fieldS d n)))
  rw [List.foldl_cons]
  refine⟨fun h=>ih.1 (fold_sorted (fun x:GTerm=>x.Text) _ _ h),?_⟩
  rw [ih.2]
  unfold putsS
  rw [fold_mem (fun x:GTerm=>x.Text)]
  constructor
  ·rintro ((h | h) | ⟨e,he,h⟩)
   ·exact .inl h
   ·exact .inr ⟨d,by simp,h⟩
   ·exact .inr ⟨e,by simp [he],h⟩
  ·rintro (h | ⟨e,he,h⟩)
   ·exact .inl (.inl h)
   ·rcases List.mem_cons.1 he with rfl | he
    ·exact .inl (.inr h)
    ·exact .inr ⟨e,he,h⟩
theorem mem_fterms {c:GConf}{docs:List GDoc}{n t:Str}:t∈ftermsS c docs n↔∃d∈docs,∃x∈termsS c (fieldS d n),x.Text=t:=by
 have:=(fterms_gen c n t docs []).2
 simpa [ftermsS] using this
theorem fterms_sorted (c:GConf)(docs:List GDoc)(n:Str):SortS (ftermsS c docs n):=(fterms_gen c n [] docs []).1 List.Pairwise.nil
theorem addPost_new {ps:List GPost}{id a:Int}(h:needPost ps id=true):addPost ps id a=ps++[GPost.mk id [a]]:=by
 unfold addPost
 rw [h];simp
theorem addPost_more {ps:List GPost}{id a:Int}{as':List Int}:addPost (ps++[GPost.mk id as']) id a=ps++[GPost.mk id (as'++[a])]:=by
 have:needPost (ps++[GPost.mk id as']) id=false:=by simp [needPost]
 unfold addPost
 rw [this];simp
theorem post_more {ps:List GPost}{id:Int}: ∀(l as':List Int),(l.map fun a=>(id,a)).foldl (fun ps q=>addPost ps q.1 q.2) (ps++[GPost.mk id as'])=ps++[GPost.mk id (as'++l)]
 | [],as'=>by simp
 | a::l,as'=>by rw [List.map_cons,List.foldl_cons,addPost_more,post_more l,List.append_assoc];rfl
theorem post_block {ps:List GPost}{id:Int}{l:List Int}(h:needPost ps id=true):(l.map fun a=>(id,a)).foldl (fun ps q=>addPost ps q.1 q.2) ps=ps++(if decide (0<l.length) then [GPost.mk id l] else []):=by
 cases l with
 | nil=>simp
 | cons a l=>rw [List.map_cons,List.foldl_cons,addPost_new h,post_more];simp
theorem need_of {ps:List GPost}{id:Int}(h: ∀p∈ps,p.Doc≠id):needPost ps id=true:=by
 unfold needPost
 split
 ·rfl
 ·rename_i p hp
  have:=h p (List.mem_of_getLast? hp)
  simp [this]
theorem posts_docs (c:GConf)(n t:Str): ∀(docs:List GDoc) (ps:List GPost),(docs.Pairwise fun a b=>a.Id<b.Id)→(∀p∈ps,∀d∈docs,p.Doc<d.Id)→
  (docs.flatMap fun d=>(postS c d n t).map fun a=>(d.Id,a)).foldl (fun ps q=>addPost ps q.1 q.2) ps=ps++docs.flatMap (docPost c n t)
 | [],ps,_,_=>by simp
 | d::r,ps,hd,hp=>by
  have hc:=List.pairwise_cons.1 hd
  rw [List.flatMap_cons,List.flatMap_cons,List.foldl_append,post_block (need_of fun p hm=>by have:=hp p hm d (by simp);omega),posts_docs c n t r _ hc.2 (fun p hm e he=>?_),List.append_assoc]
  ·rfl
  ·rcases List.mem_append.1 hm with hm | hm
   ·exact hp p hm e (by simp [he])
   ·split at hm
    ·rw [List.mem_singleton] at hm;subst hm;exact hc.1 e he
    ·cases hm
def fieldOcc (c:GConf)(id:Int)(f:GField):List Occ:=(termsS c f.Text).map fun x=>((f.Name,x.Text),(id,x.At))
def docOcc (c:GConf)(d:GDoc):List Occ:=d.Fields.flatMap (fieldOcc c d.Id)
def occS (c:GConf)(docs:List GDoc):List Occ:=docs.flatMap (docOcc c)
theorem occ_field (c:GConf)(id:Int)(f:GField)(n t:Str):((fieldOcc c id f).filter fun o=>o.1==(n,t)).map (·.2)=if f.Name==n then ((termsS c f.Text).flatMap fun x=>if x.Text==t then [x.At] else []).map fun a=>(id,a) else []:=by
 unfold fieldOcc
 generalize termsS c f.Text=l
 have hk: ∀x:GTerm,(((f.Name,x.Text):Str×Str)==(n,t))=(f.Name==n&&x.Text==t):=fun _=>rfl
 cases h:f.Name==n
 ·rw [if_neg (by simp),List.filter_eq_nil_iff.2 fun o ho e=>?_]
  ·rfl
  ·obtain⟨x,_,rfl⟩:=List.mem_map.1 ho
   have e':=(hk x).symm.trans e
   rw [h] at e';cases e'
 ·rw [if_pos rfl]
  induction l with
  | nil=>rfl
  | cons x r ih=>
   rw [List.map_cons,List.filter_cons,List.flatMap_cons,hk,h,Bool.true_and,List.map_append,←ih]
   cases x.Text==t<;>rfl
theorem occ_fields (c:GConf)(id:Int)(n t:Str): ∀(l:List GField),(l.Pairwise fun f g=>f.Name≠g.Name)→(((l.flatMap (fieldOcc c id)).filter fun o=>o.1==(n,t)).map (·.2))=((termsS c ((l.find? fun f=>f.Name==n).elim [] (·.Text))).flatMap fun x=>if x.Text==t then [x.At] else []).map fun a=>(id,a)
 | [],_=>by simp [terms_nil]
 | f::r,h=>by
  have hc:=List.pairwise_cons.1 h
  have ih:=occ_fields c id n t r hc.2
  rw [List.flatMap_cons,List.filter_append,List.map_append,occ_field,List.find?_cons]
  cases hn:f.Name==n
  ·rw [if_neg (by simp),List.nil_append,ih]
  ·have he:=eq_of_beq hn
   have hnone:r.find? (fun g=>g.Name==n)=none:=List.find?_eq_none.2 fun g hg e=>hc.1 g hg (he.trans (eq_of_beq e).symm)
   rw [if_pos rfl,ih,hnone]
   simp [terms_nil]
theorem occ_key (c:GConf)(n t:Str): ∀(docs:List GDoc),(∀d∈docs,d.Fields.Pairwise fun f g=>f.Name≠g.Name)→((occS c docs).filter fun o=>o.1==(n,t)).map (·.2)=docs.flatMap fun d=>(postS c d n t).map fun a=>(d.Id,a)
 | [],_=>by simp [occS]
 | d::r,h=>by
  have ih:=occ_key c n t r fun e he=>h e (by simp [he])
  unfold occS at ih ⊢
  rw [List.flatMap_cons,List.filter_append,List.map_append,ih,List.flatMap_cons]
  congr 1
  exact occ_fields c d.Id n t d.Fields (h d (by simp))
structure DocsGood (docs:List GDoc):Prop where
 ids:docs.Pairwise fun a b=>a.Id<b.Id
 names: ∀d∈docs,d.Fields.Pairwise fun f g=>f.Name≠g.Name
theorem mkE_entry {c:GConf}{docs:List GDoc}(h:DocsGood docs)(n t:Str):mkE (occS c docs) (n,t)=entryS c docs n t:=by
 unfold mkE entryS postsOf
 rw [occ_key c n t docs h.names]
 have:=posts_docs c n t docs [] h.ids (by simp)
 rw [List.nil_append] at this
 simp only [this]
theorem mem_docOcc {c:GConf}{d:GDoc}{o:Occ}:o∈docOcc c d↔∃f∈d.Fields,∃x∈termsS c f.Text,o=((f.Name,x.Text),(d.Id,x.At)):=by
 unfold docOcc fieldOcc
 simp only [List.mem_flatMap,List.mem_map,eq_comm]
theorem field_at {d:GDoc}(h:d.Fields.Pairwise fun f g=>f.Name≠g.Name){f:GField}(hf:f∈d.Fields):fieldS d f.Name=f.Text:=by
 have gen: ∀l:List GField,(l.Pairwise fun f g=>f.Name≠g.Name)→f∈l→(l.find? fun g=>g.Name==f.Name).elim [] (·.Text)=f.Text:=by
  intro l
  induction l with
  | nil=>intro _ h;cases h
  | cons g r ih=>
   intro hp hm
   have hc:=List.pairwise_cons.1 hp
   rw [List.find?_cons]
   rcases List.mem_cons.1 hm with rfl | hm
   ·rw [beq_self_eq_true];rfl
   ·have:(g.Name==f.Name)=false:=beq_eq_false_iff_ne.2 (hc.1 f hm)
    rw [this];exact ih hc.2 hm
 exact gen d.Fields h hf
theorem mem_segS {c:GConf}{docs:List GDoc}(h:DocsGood docs)(e:GEntry):e∈(segS c docs).Entries↔e∈(keysOf (occS c docs)).map (mkE (occS c docs)):=by
 unfold segS
 rw [List.mem_flatMap,List.mem_map]
 have hk:=(keys_ok (occS c docs)).2
 constructor
 ·rintro⟨n,hn,hm⟩
  obtain⟨t,ht,rfl⟩:=List.mem_map.1 hm
  refine⟨(n,t),(hk _).2 ?_,mkE_entry h n t⟩
  obtain⟨d,hd,x,hx,rfl⟩:=mem_fterms.1 ht
  unfold fieldS at hx
  cases hf:d.Fields.find? fun f=>f.Name==n with
  | none=>
   rw [hf] at hx
   rw [Option.elim_none,terms_nil] at hx;cases hx
  | some f=>
   rw [hf] at hx
   have hfn:=List.find?_some hf
   exact⟨((f.Name,x.Text),(d.Id,x.At)),List.mem_flatMap.2 ⟨d,hd,mem_docOcc.2 ⟨f,List.mem_of_find?_eq_some hf,x,hx,rfl⟩⟩,by rw [eq_of_beq hfn]⟩
 ·rintro⟨⟨n,t⟩,hkm,rfl⟩
  obtain⟨o,ho,hok⟩:=(hk _).1 hkm
  obtain⟨d,hd,hod⟩:=List.mem_flatMap.1 ho
  obtain⟨f,hf,x,hx,rfl⟩:=mem_docOcc.1 hod
  cases hok
  refine⟨f.Name,mem_names.2 ⟨d,hd,f,hf,rfl⟩,List.mem_map.2 ⟨x.Text,mem_fterms.2 ⟨d,hd,x,?_,rfl⟩,(mkE_entry h _ _).symm⟩⟩
  rw [field_at (h.names d hd) hf];exact hx
def ltE (a b:GEntry):Bool:=strLess a.Field b.Field||(a.Field==b.Field&&strLess a.Term b.Term)
theorem ltE_iff (a b:GEntry):ltE a b=true↔strLess a.Field b.Field=true∨(a.Field=b.Field∧strLess a.Term b.Term=true):=by simp [ltE]
theorem ltE_irr (a:GEntry):ltE a a=false:=by
 rw [Bool.eq_false_iff];intro h
 rcases (ltE_iff a a).1 h with h | ⟨_,h⟩
 ·rw [sl_irrefl] at h;cases h
 ·rw [sl_irrefl] at h;cases h
theorem ltE_tr {a b c:GEntry}(h:ltE a b=true)(h':ltE b c=true):ltE a c=true:=by
 rw [ltE_iff] at h h' ⊢
 rcases h with h | ⟨e,h⟩
 ·rcases h' with h' | ⟨e',h'⟩
  ·exact .inl (sl_trans h h')
  ·exact .inl (e'▸h)
 ·rcases h' with h' | ⟨e',h'⟩
  ·exact .inl (e▸h')
  ·exact .inr ⟨e.trans e',sl_trans h h'⟩
theorem ltE_ng {a b c:GEntry}(h:ltE a c=true):ltE a b=true∨ltE b c=true:=by
 rw [ltE_iff] at h ⊢
 rw [ltE_iff]
 rcases h with h | ⟨e,h⟩
 ·rcases sl_neg (b:=b.Field) h with h1 | h1
  ·exact .inl (.inl h1)
  ·exact .inr (.inl h1)
 ·by_cases e1:a.Field=b.Field
  ·rcases sl_neg (b:=b.Term) h with h1 | h1
   ·exact .inl (.inr ⟨e1,h1⟩)
   ·exact .inr (.inr ⟨e1▸e,h1⟩)
  ·rcases sl_or e1 with h1 | h1
   ·exact .inl (.inl h1)
   ·exact .inr (.inl (e▸h1))
theorem ltE_or {a b:GEntry}(h:(a.Field,a.Term)≠(b.Field,b.Term)):ltE a b=true∨ltE b a=true:=by
 rw [ltE_iff,ltE_iff]
 by_cases e:a.Field=b.Field
 ·have:a.Term≠b.Term:=fun e'=>h (by rw [e,e'])
  rcases sl_or this with h1 | h1
  ·exact .inl (.inr ⟨e,h1⟩)
  ·exact .inr (.inr ⟨e.symm,h1⟩)
 ·rcases sl_or e with h1 | h1
  ·exact .inl (.inl h1)
  ·exact .inr (.inl h1)
theorem segS_sorted (c:GConf)(docs:List GDoc):(segS c docs).Entries.Pairwise fun a b=>ltE a b=true:=by
 unfold segS
 refine List.pairwise_flatMap.2 ⟨fun n _=>?_,?_⟩
 ·exact List.pairwise_map.2 (List.Pairwise.imp (R:=fun a b=>strLess a b=true) (fun {a b} h=>(ltE_iff (entryS c docs n a) (entryS c docs n b)).2 (.inr ⟨rfl,h⟩)) (fterms_sorted c docs n))
 ·refine(names_sorted docs).imp fun {a b} h x hx y hy=>?_
  obtain⟨t,_,rfl⟩:=List.mem_map.1 hx
  obtain⟨u,_,rfl⟩:=List.mem_map.1 hy
  exact(ltE_iff _ _).2 (.inl h)
theorem keys_apart (os:List Occ):((keysOf os).map (mkE os)).Pairwise fun a b=>ltE a b=true∨ltE b a=true:=
 List.pairwise_map.2 (List.Pairwise.imp (R:=fun a b=>a≠b) (fun {a b} h=>ltE_or (a:=mkE os a) (b:=mkE os b) h) (keys_ok os).1)
def cmpS (x y:Str):Int:=if strLess x y then -1 else if !(strLess x y||x==y) then 1 else 0
theorem cmp_str (F:Nat)(x y:Str):M.cmp_Compare_string F x y=some (cmpS x y):=by
 have hn: ∀s,M.cmp_isNaN_string F s=some false:=fun s=>by unfold M.cmp_isNaN_string;simp
 unfold M.cmp_Compare_string cmpS
 rw [hn,hn,Option.bind_some,Option.bind_some,cond_false,cond_false,if_bif,if_bif]
 cases strLess x y
 ·cases x==y<;>rfl
 ·rfl
end Go.Fk
set_option linter.unusedVariables false
namespace Go.Fk
open Go
theorem or2_ok (F:Nat)(a b:Int):M.cmp_Or_int F [a,b]=some (if a=0 then b else a):=by
 unfold M.cmp_Or_int
 simp only [List.length_cons,List.length_nil,forFrom]
 have g0:getI [a,b] ((0:Nat):Int)=some a:=rfl
 have g1:getI [a,b] ((0+1:Nat):Int)=some b:=rfl
 rw [g0]
 by_cases h:a=0
 ·subst h
  simp only [Option.bind_some,beq_self_eq_true,Bool.not_true,cond_false,Sum.elim_inl]
  rw [g1]
  by_cases hb:b=0
  ·subst hb;rfl
  ·rw [Option.bind_some,beq_eq_false_iff_ne.2 hb];rfl
 ·rw [Option.bind_some,beq_eq_false_iff_ne.2 h,if_neg h];rfl
def ordE (a b:GEntry):Int:=if cmpS a.Field b.Field=0 then cmpS a.Term b.Term else cmpS a.Field b.Field
theorem ordE_ok (F:Nat)(a b:GEntry):M.impl_SegOf_1 F a b=some (ordE a b):=by
 unfold M.impl_SegOf_1
 rw [cmp_str,Option.bind_some,cmp_str,Option.bind_some,or2_ok];rfl
theorem cmpS_neg (x y:Str):cmpS x y<0↔strLess x y=true:=by
 unfold cmpS
 cases strLess x y
 ·cases x==y<;>simp
 ·simp
theorem cmpS_zero (x y:Str):cmpS x y=0↔x=y:=by
 unfold cmpS
 cases h:strLess x y
 ·cases h2:x==y
  ·have:=beq_eq_false_iff_ne.1 h2
   simp [this]
  ·have:=eq_of_beq h2
   simp [this]
 ·rw [if_pos rfl]
  refine⟨fun e=>by omega,fun e=>?_⟩
  subst e;rw [sl_irrefl] at h;cases h
theorem ordE_lt (F:Nat)(a b:GEntry):ltO (fun a b=>M.impl_SegOf_1 F a b) a b=ltE a b:=by
 show decide ((M.impl_SegOf_1 F a b).getD 0<0)=_
 rw [ordE_ok]
 show decide (ordE a b<0)=_
 rw [Bool.eq_iff_iff,decide_eq_true_iff,ltE_iff]
 unfold ordE
 by_cases h:cmpS a.Field b.Field=0
 ·rw [if_pos h,cmpS_neg]
  have e:=(cmpS_zero _ _).1 h
  rw [e,sl_irrefl];simp
 ·rw [if_neg h,cmpS_neg]
  have e:a.Field≠b.Field:=fun e=>h ((cmpS_zero _ _).2 e)
  simp [e]
def Fits (B:Nat)(es:List GEntry):Prop:=es.length≤B∧∀e∈es,e.Posts.length≤B∧∀p∈e.Posts,p.At.length≤B
theorem addPost_fits {B:Nat}{ps:List GPost}{id a:Int}(h:ps.length≤B∧∀p∈ps,p.At.length≤B):(addPost ps id a).length≤B+1∧∀p∈addPost ps id a,p.At.length≤B+1:=by
 obtain⟨h1,h2⟩:=h
 cases hn:needPost ps id
 ·rcases List.eq_nil_or_concat ps with rfl | ⟨qs,p,rfl⟩
  ·simp [needPost] at hn
  ·have e:addPost (qs.concat p) id a=qs++[GPost.mk p.Doc (p.At++[a])]:=by
    unfold addPost;rw [hn];simp
   rw [e]
   simp only [List.concat_eq_append,List.length_append,List.length_singleton] at h1 h2 ⊢
   refine⟨by omega,fun q hq=>?_⟩
   rcases List.mem_append.1 hq with hq | hq
   ·have:=h2 q (by simp [hq]);omega
   ·rw [List.mem_singleton] at hq;subst hq
    have:=h2 p (by simp)
    simp only [List.length_append,List.length_singleton];omega
 ·rw [addPost_new hn]
  refine⟨by simp only [List.length_append,List.length_singleton];omega,fun q hq=>?_⟩
  rcases List.mem_append.1 hq with hq | hq
  ·have:=h2 q hq;omega
  ·rw [List.mem_singleton] at hq;subst hq;simp
theorem put_fits {B:Nat}{o:Occ}: ∀{es:List GEntry},Fits B es→Fits (B+1) (putS o es):=by
 intro es h
 have hl: ∀es:List GEntry,(putS o es).length≤es.length+1:=by
  intro es
  induction es with
  | nil=>simp [putS]
  | cons e r ih=>unfold putS;split<;>simp only [List.length_cons]<;>omega
 refine⟨by have:=hl es;have:=h.1;omega,?_⟩
 have gen: ∀es:List GEntry,(∀e∈es,e.Posts.length≤B∧∀p∈e.Posts,p.At.length≤B)→∀e∈putS o es,e.Posts.length≤B+1∧∀p∈e.Posts,p.At.length≤B+1:=by
  intro es
  induction es with
  | nil=>
   intro _ e he
   rw [putS,List.mem_singleton] at he;subst he
   exact addPost_fits (B:=B) (ps:=[]) ⟨Nat.zero_le _,fun p hp=>by cases hp⟩
  | cons x r ih=>
   intro hx e he
   unfold putS at he
   split at he
   ·rcases List.mem_cons.1 he with rfl | he
    ·exact addPost_fits (hx x (by simp))
    ·have:=hx e (by simp [he]);exact⟨by omega,fun p hp=>by have:=this.2 p hp;omega⟩
   ·rcases List.mem_cons.1 he with rfl | he
    ·have:=hx e (by simp);exact⟨by omega,fun p hp=>by have:=this.2 p hp;omega⟩
    ·exact ih (fun y hy=>hx y (by simp [hy])) e he
 exact gen es h.2
def keyP (n t:Str)(e:GEntry):Bool:=e.Field==n&&e.Term==t
theorem put_idx (o:Occ): ∀es:List GEntry,putS o es=match es.findIdx? (keyP o.1.1 o.1.2) with
  | none=>es++[⟨o.1.1,o.1.2,addPost [] o.2.1 o.2.2⟩]
  | some j=>(es[j]?).elim es fun e=>es.set j ⟨e.Field,e.Term,addPost e.Posts o.2.1 o.2.2⟩
 | []=>rfl
 | e::r=>by
  have ih:=put_idx o r
  rw [putS,List.findIdx?_cons]
  have hk:keyP o.1.1 o.1.2 e=(e.Field==o.1.1&&e.Term==o.1.2):=rfl
  rw [hk,if_bif,if_bif]
  cases (e.Field==o.1.1&&e.Term==o.1.2)
  ·simp only [cond_false]
   rw [ih]
   cases r.findIdx? (keyP o.1.1 o.1.2) with
   | none=>rfl
   | some j=>
    simp only [Option.map_some,List.getElem?_cons_succ]
    cases r[j]? <;>rfl
  ·rfl
theorem impl_index (F:Nat)(es:List GEntry)(n:Str)(t:GTerm):M.slices_IndexFunc_Entry__impl_Seg_put_1 F es n t=some ((es.findIdx? (keyP n t.Text)).elim (-1:Int) fun j=>(j:Int)):=by
 unfold M.slices_IndexFunc_Entry__impl_Seg_put_1
 rw [idx_from (keyP n t.Text) (fun i x hx=>?_)]
 ·cases es.findIdx? (keyP n t.Text)<;>rfl
 ·rw [getI_nat',hx,Option.bind_some]
  unfold M.impl_Seg_put_1
  have:(cond (x.Field==n) (some (x.Term==t.Text)) (some false):Option Bool)=some (keyP n t.Text x):=by
   unfold keyP;cases x.Field==n<;>rfl
  rw [this,Option.bind_some,if_bif]
  cases keyP n t.Text x<;>rfl
theorem impl_put (F B:Nat)(docs:List GDoc)(es:List GEntry)(n:Str)(t:GTerm)(id:Int)(h:Fits B es)(hB:B≤1000000):M.impl_Seg_put F ⟨docs,es⟩ n t id=some ⟨docs,putS ((n,t.Text),(id,t.At)) es⟩:=by
 have h1:=h.1
 have hpost: ∀ps:List GPost,(ps.length≤B∧∀p∈ps,p.At.length≤B)→∃p at_,(cond (needPost ps id) (catL 32 ps [GPost.mk id []]) (some ps))=some (if needPost ps id then ps++[GPost.mk id []] else ps)∧(if needPost ps id then ps++[GPost.mk id []] else ps).getLast?=some p∧
   catL 8 p.At [t.At]=some at_∧addPost ps id t.At=(if needPost ps id then ps++[GPost.mk id []] else ps).dropLast++[GPost.mk p.Doc at_]:=fun ps ⟨g1,g2⟩=>by
  cases hn:needPost ps id
  ·rcases List.eq_nil_or_concat ps with rfl | ⟨qs,p,rfl⟩
   ·simp [needPost] at hn
   ·have:=g2 p (by simp)
    refine⟨p,p.At++[t.At],rfl,by simp,catLok (by simp only [List.length_singleton];omega),?_⟩
    unfold addPost;rw [hn];simp
  ·refine⟨GPost.mk id [],[t.At],?_,by simp,catLok (by simp),?_⟩
   ·rw [cond_true,catLok (by simp only [List.length_singleton];omega)];rfl
   ·unfold addPost;rw [hn];simp
 unfold M.impl_Seg_put
 rw [impl_index,Option.bind_some,put_idx]
 cases hf:es.findIdx? (keyP n t.Text) with
 | none=>
  obtain⟨p,at_,e1,e2,e3,e4⟩:=hpost [] ⟨by simp,by simp⟩
  rw [show (Option.elim (none:Option Nat) (-1:Int) fun j=>(j:Int))= -1 from rfl]
  rw [decide_eq_true (by decide),cond_true,cond_true]
  dsimp only
  rw [catLok (by simp only [List.length_singleton];omega),Option.bind_some,getI_nat',List.getElem?_append_right (Nat.le_refl _),Nat.sub_self]
  simp only [List.getElem?_cons_zero,Option.bind_some]
  rw [e1,Option.bind_some,e2,Option.bind_some,e3,Option.bind_some,←e4]
  simp
 | some j=>
  have hj:=(List.findIdx?_eq_some_iff_getElem.1 hf).1
  have hfit:=h.2 es[j] (List.getElem_mem hj)
  obtain⟨p,at_,e1,e2,e3,e4⟩:=hpost es[j].Posts hfit
  rw [show (Option.elim (some j) (-1:Int) fun j=>(j:Int))=(j:Int) from rfl]
  rw [decide_eq_false (by omega),cond_false,cond_false]
  dsimp only
  rw [Option.bind_some,getI_nat',List.getElem?_eq_getElem hj,Option.bind_some,e1,Option.bind_some,e2,Option.bind_some,e3,Option.bind_some,←e4]
  rfl
end Go.Fk
set_option linter.unusedVariables false
namespace Go.Fk
open Go
theorem adj_pair {α:Type}{lt:α→α→Bool}(tr: ∀{a b c},lt a b=true→lt b c=true→lt a c=true): ∀l:List α,(∀i,(hi:i+1<l.length)→lt l[i] l[i+1]=true)→l.Pairwise fun a b=>lt a b=true
 | [],_=>List.Pairwise.nil
 | a::l,hl=>by
  have ih':=adj_pair (lt:=lt) tr l (fun i hi=>by have:=hl (i+1) (by simp only [List.length_cons];omega);simpa using this)
  refine List.pairwise_cons.2 ⟨fun c hc=>?_,ih'⟩
  cases l with
  | nil=>cases hc
  | cons b l=>
   have hab:lt a b=true:=hl 0 (by simp)
   rcases List.mem_cons.1 hc with rfl | hc
   ·exact hab
   ·exact tr hab ((List.pairwise_cons.1 ih').1 c hc)
theorem docS_parts {d:GDoc}(h:docS d=true):(pairS fieldOk fieldLt d.Fields=true∧pairS attrOk attrLt d.Nums=true)∧d.Fields.length≤3∧d.Nums.length≤3:=by
 unfold docS at h
 simp only [Bool.and_eq_true,decide_eq_true_iff] at h
 exact⟨h.1,by omega,by omega⟩
theorem text_len {s:Str}(h:textS s=true):s.length≤160:=by
 unfold textS at h
 simp only [Bool.and_eq_true,decide_eq_true_iff] at h
 omega
theorem doc_texts {d:GDoc}(h:docS d=true){f:GField}(hf:f∈d.Fields):wordS f.Name=true∧textS f.Text=true:=by
 have:=(pairS_ok (docS_parts h).1.1).1 f hf
 unfold fieldOk at this
 simpa using this
theorem doc_fit {d:GDoc}(h:docS d=true):DocFit d:=by
 obtain⟨⟨h1,h2⟩,h3,h4⟩:=docS_parts h
 refine⟨by omega,by omega,fun f hf=>?_,fun a ha=>?_⟩
 ·obtain⟨k1,k2⟩:=doc_texts h hf
  have:=text_len k2
  have:=word_le k1
  omega
 ·have:=(pairS_ok h2).1 a ha
  unfold attrOk at this
  simp only [Bool.and_eq_true] at this
  have:=word_le this.1
  omega
theorem doc_names {d:GDoc}(h:docS d=true):d.Fields.Pairwise fun f g=>f.Name≠g.Name:=by
 have h1:=adj_pair (lt:=fieldLt) (fun {a b c} k1 k2=>sl_trans k1 k2) d.Fields (pairS_ok (docS_parts h).1.1).2
 refine h1.imp fun {a b} k e=>?_
 unfold fieldLt at k
 rw [e,sl_irrefl] at k;cases k
theorem docs_all {docs:List GDoc}(h:docsS docs=true):docs.length≤16∧∀d∈docs,docS d=true:=by
 unfold docsS at h
 rw [Bool.and_eq_true,decide_eq_true_iff] at h
 exact⟨by omega,(pairS_ok h.1).1⟩
theorem docs_fit {docs:List GDoc}(h:docsS docs=true):DocsFit docs:=⟨by have:=(docs_all h).1;omega,fun d hd=>doc_fit ((docs_all h).2 d hd)⟩
theorem docs_good {docs:List GDoc}(h:docsS docs=true):DocsGood docs:=⟨(docs_ids h).2.2,fun d hd=>doc_names ((docs_all h).2 d hd)⟩
theorem fold_forE_inv_at {α σ:Type}{xs:List α}{g:σ→α→σ}{I:Nat→σ→Prop}{f:Nat→σ→Option σ}(h: ∀i x s,xs[i]? =some x→I i s→f i s=some (g s x)∧I (i+1) (g s x)): ∀k i s,i+k=xs.length→I i s→forE f k i s=some ((xs.drop i).foldl g s)
 | 0,i,s,e,_=>by rw [forE,List.drop_of_length_le (by omega)];rfl
 | k+1,i,s,e,hI=>by
  have hi:i<xs.length:=by omega
  obtain⟨h1,h2⟩:=h i xs[i] s (List.getElem?_eq_getElem hi) hI
  rw [forE,h1,List.drop_eq_getElem_cons hi,Option.bind_some,List.foldl_cons]
  exact fold_forE_inv_at h k (i+1) _ (by omega) h2
theorem fold_forE_inv {α σ:Type}{xs:List α}(g:σ→α→σ)(I:Nat→σ→Prop){f:Nat→σ→Option σ}(s:σ)(hI:I 0 s)(h: ∀i x s,xs[i]? =some x→I i s→f i s=some (g s x)∧I (i+1) (g s x)):forE f xs.length 0 s=some (xs.foldl g s):=by
 have:=fold_forE_inv_at h xs.length 0 s (by omega) hI
 rwa [List.drop_zero] at this
def putAll (es:List GEntry)(os:List Occ):List GEntry:=os.foldl (fun es o=>putS o es) es
theorem putAll_fits {B:Nat}: ∀(os:List Occ) {es:List GEntry},Fits B es→Fits (B+os.length) (putAll es os)
 | [],es,h=>h
 | o::os,es,h=>by
  have:=putAll_fits os (put_fits (o:=o) h)
  rw [List.length_cons,show B+(os.length+1)=B+1+os.length by omega]
  exact this
theorem Fits.le {B B':Nat}{es:List GEntry}(h:Fits B es)(hle:B≤B'):Fits B' es:=
 ⟨Nat.le_trans h.1 hle,fun e he=>⟨Nat.le_trans (h.2 e he).1 hle,fun p hp=>Nat.le_trans ((h.2 e he).2 p hp) hle⟩⟩
theorem putAll_flat {α:Type}(h:α→List Occ)(docs:List GDoc): ∀(l:List α) (es:List GEntry),l.foldl (fun s x=>GSeg.mk s.Docs (putAll s.Entries (h x))) (GSeg.mk docs es)=GSeg.mk docs (putAll es (l.flatMap h))
 | [],es=>rfl
 | x::l,es=>by
  rw [List.foldl_cons,putAll_flat h docs l,List.flatMap_cons]
  unfold putAll
  rw [List.foldl_append]
theorem impl_clones (F:Nat)(docs:List GDoc)(h:DocsFit docs):M.impl_cloneDocs F docs=some docs:=by
 have hfew:=h.few
 unfold M.impl_cloneDocs
 rw [fm_forE (fun d:GDoc=>[d]) 1000 (fun i d acc hx hB=>?_) [] (by simp;omega)]
 ·simp
 ·have hdd:=h.doc d (List.mem_of_getElem? hx)
  have h1:=hdd.fields
  have h2:=hdd.nums
  rw [getI_nat',hx,Option.bind_some,impl_clone F d (by omega) (by omega),Option.bind_some,catLok (by simp at hB ⊢;omega)];rfl
theorem occ_len {c:GConf}{id:Int}{f:GField}(h:textS f.Text=true):(fieldOcc c id f).length≤160:=by
 have:=terms_len c f.Text
 have:=text_len h
 unfold fieldOcc
 rw [List.length_map];omega
theorem docOcc_len {c:GConf}{d:GDoc}(h:docS d=true):(docOcc c d).length≤480:=by
 have h1:=flat_le (g:=fieldOcc c d.Id) (m:=160) d.Fields fun f hf=>occ_len (doc_texts h hf).2
 have h2:=(docS_parts h).2.1
 have:d.Fields.length*160≤480:=by omega
 unfold docOcc;omega
def segOf (c:GConf)(docs:List GDoc):GSeg:=if confS c&&docsS docs then segS c docs else ⟨[],[]⟩
theorem impl_segOf (F:Nat)(c:GConf)(docs:List GDoc)(hd:docs.length<9000000000000000000)(hc:c.Stops.length≤2000000)(hF:1000<F):M.impl_SegOf F c docs=some (segOf c docs):=by
 unfold M.impl_SegOf segOf
 rw [impl_conf F c hc (by omega),Option.bind_some]
 cases hcs:confS c
 ·rfl
 rw [Bool.not_true,cond_false,impl_docs F docs hd,Option.bind_some,Option.bind_some,Bool.true_and]
 cases hds:docsS docs
 ·rfl
 have hall:=docs_all hds
 rw [Bool.not_true,cond_false,if_pos rfl,impl_clones F docs (docs_fit hds),Option.bind_some]
 rw [fold_forE_inv (xs:=docs) (fun s d=>GSeg.mk s.Docs (putAll s.Entries (docOcc c d))) (fun i s=>s.Docs=docs∧Fits (i*480) s.Entries) ⟨docs,[]⟩ ⟨rfl,by simp [Fits]⟩ (fun i d s hx ⟨e,hs⟩=>?_)]
 ·rw [putAll_flat,Option.bind_some,Option.bind_some]
  have hocc:docs.flatMap (docOcc c)=occS c docs:=rfl
  have hfin:Fits 7680 (putAll [] (occS c docs)):=by
   have hl:=flat_le (g:=docOcc c) (m:=480) docs fun d hd=>docOcc_len (hall.2 d hd)
   have hl2:=hall.1
   have:=putAll_fits (B:=0) (occS c docs) (es:=[]) (by simp [Fits])
   exact this.le (by unfold occS;omega)
  rw [hocc]
  have hput:putAll [] (occS c docs)=(keysOf (occS c docs)).map (mkE (occS c docs)):=puts_all _
  rw [sortO_is (t:=(segS c docs).Entries) (ordE_lt F) (fun a b=>by rw [ordE_ok];rfl) ltE_irr ltE_tr ltE_ng (by rw [hput];exact keys_apart _) (segS_sorted c docs) (fun x=>by rw [hput];exact mem_segS (docs_good hds) x) (by have:=hfin.1;show (putAll [] (occS c docs)).length≤_;omega),Option.bind_some]
  rfl
 ·have hdi:=hall.2 d (List.mem_of_getElem? hx)
  have hi:=(List.getElem?_eq_some_iff.1 hx).1
  have h16:=hall.1
  have h3:=(docS_parts hdi).2.1
  have hol:=docOcc_len (c:=c) hdi
  refine⟨?_,e,(putAll_fits _ hs).le (by omega)⟩
  obtain⟨sd,se⟩:=s
  dsimp only at e hs ⊢
  subst e
  rw [getI_nat',hx,Option.bind_some]
  rw [fold_forE_inv (xs:=d.Fields) (fun s f=>GSeg.mk s.Docs (putAll s.Entries (fieldOcc c d.Id f))) (fun j s=>s.Docs=sd∧Fits (i*480+j*160) s.Entries) ⟨sd,se⟩ (by rw [Nat.zero_mul,Nat.add_zero];exact⟨rfl,hs⟩) (fun j f s hf ⟨e,hs⟩=>?_)]
  ·rw [putAll_flat,Option.bind_some,Option.bind_some];rfl
  ·have hft:=(doc_texts hdi (List.mem_of_getElem? hf)).2
   have htl:=text_len hft
   have hj:=(List.getElem?_eq_some_iff.1 hf).1
   have hfl:=occ_len (c:=c) (id:=d.Id) hft
   refine⟨?_,e,(putAll_fits _ hs).le (by omega)⟩
   obtain⟨sd',se'⟩:=s
   dsimp only at e hs ⊢
   subst e
   rw [getI_nat',hf,Option.bind_some,impl_terms F c f.Text (by omega) (by omega) (by omega),hcs,hft,Bool.true_and,if_pos rfl,Option.bind_some]
   have htm:=terms_len c f.Text
   rw [fold_forE_inv (xs:=termsS c f.Text) (fun s x=>GSeg.mk s.Docs (putAll s.Entries [((f.Name,x.Text),(d.Id,x.At))])) (fun k s=>s.Docs=sd'∧Fits (i*480+j*160+k) s.Entries) ⟨sd',se'⟩ (by rw [Nat.add_zero];exact⟨rfl,hs⟩) (fun k x s hxk ⟨e,hs⟩=>?_)]
   ·rw [putAll_flat (fun x:GTerm=>[((f.Name,x.Text),(d.Id,x.At))]),Option.bind_some,Option.bind_some]
    congr 2
    unfold fieldOcc
    rw [List.map_eq_flatMap]
   ·have hk:=(List.getElem?_eq_some_iff.1 hxk).1
    refine⟨?_,e,by have h1:=putAll_fits [((f.Name,x.Text),(d.Id,x.At))] hs;rw [List.length_singleton,Nat.add_assoc] at h1;exact h1⟩
    obtain⟨sd'',se''⟩:=s
    dsimp only at e hs ⊢
    subst e
    rw [getI_nat',hxk,Option.bind_some,impl_put F _ sd'' se'' f.Name x d.Id hs (by omega),Option.bind_some]
    rfl
end Go.Fk
set_option linter.unusedVariables false
namespace Go.Fk
open Go
def eqL {α:Type}(q:α→α→Bool)(xs ys:List α):Bool:=decide ((xs.length:Int)=ys.length)&&(xs.zip ys).all fun p=>q p.1 p.2
theorem eqL_iff {α:Type}{q:α→α→Bool}(h: ∀a b,q a b=true↔a=b): ∀xs ys:List α,eqL q xs ys=true↔xs=ys
 | [],[]=>by simp [eqL]
 | [],y::ys=>by simp [eqL];omega
 | x::xs,[]=>by simp [eqL];omega
 | x::xs,y::ys=>by
  have ih:=eqL_iff h xs ys
  unfold eqL at ih ⊢
  rw [Bool.and_eq_true,decide_eq_true_iff] at ih ⊢
  rw [List.zip_cons_cons,List.all_cons,Bool.and_eq_true,h,List.cons.injEq,←ih]
  simp only [List.length_cons]
  constructor
  ·rintro⟨h1,h2,h3⟩;exact⟨h2,by omega,h3⟩
  ·rintro⟨h1,h2,h3⟩;exact⟨by omega,h1,h3⟩
theorem zip_at {α:Type}{xs ys:List α}{i:Nat}{p:α×α}(h:(xs.zip ys)[i]? =some p):xs[i]? =some p.1∧ys[i]? =some p.2:=by
 have:=List.getElem?_zip_eq_some.1 h
 exact this
theorem eqL_for {α:Type}(q:α→α→Bool){xs ys:List α}{f:Nat→Unit→Option (Unit⊕Bool)}(h: ∀i a b,xs[i]? =some a→ys[i]? =some b→f i ()=some (if q a b then .inl () else .inr false)):
  (cond (!((xs.length:Int)==(ys.length:Int))) (some false) (Option.bind ((Option.bind (forFrom f xs.length 0 ()) fun r=>r.elim (fun _=>some (.inl ())) (fun t=>some (.inr t))):Option (Unit⊕Bool)) fun o=>o.elim (fun _=>some true) fun t=>some t))=some (eqL q xs ys):=by
 by_cases e:(xs.length:Int)=ys.length
 ·have hz:(xs.zip ys).length=xs.length:=by rw [List.length_zip];omega
  have:=all_from (p:=fun p:α×α=>q p.1 p.2) (xs:=xs.zip ys) (f:=f) (fun i p hp=>h i p.1 p.2 (zip_at hp).1 (zip_at hp).2)
  have:=this xs.length 0 (by omega)
  rw [List.drop_zero] at this
  rw [this,beq_iff_eq.2 e]
  unfold eqL
  rw [decide_eq_true e,Bool.true_and]
  cases (xs.zip ys).all fun p=>q p.1 p.2<;>rfl
 ·rw [beq_eq_false_iff_ne.2 e]
  unfold eqL
  rw [decide_eq_false e];rfl
theorem eqL_while {α:Type}(q:α→α→Bool){xs ys:List α}{f:Int→Option (Int⊕(Unit⊕Bool))}(F:Nat)(hF:xs.length<F)(h: ∀(i:Nat) a b,i<xs.length→xs[i]? =some a→ys[i]? =some b→f (i:Int)=some (if q a b then .inl ((i+1:Nat):Int) else .inr (.inr false)))(h0:f (xs.length:Int)=some (.inr (.inl ()))):
  (cond (!((xs.length:Int)==(ys.length:Int))) (some false) (Option.bind ((Option.bind (whileM f F (0:Int)) fun r=>r.elim (fun _=>some (.inl ())) (fun t=>some (.inr t))):Option (Unit⊕Bool)) fun o=>o.elim (fun _=>some true) fun t=>some t))=some (eqL q xs ys):=by
 by_cases e:(xs.length:Int)=ys.length
 ·have hz:(xs.zip ys).length=xs.length:=by rw [List.length_zip];omega
  have:=all_while0 (fun p:α×α=>q p.1 p.2) (xs:=xs.zip ys) (f:=f) F (by omega) (fun i p hp=>h i p.1 p.2 (by have:=(List.getElem?_eq_some_iff.1 hp).1;omega) (zip_at hp).1 (zip_at hp).2) (by rw [hz];exact h0)
  rw [this,beq_iff_eq.2 e]
  unfold eqL
  rw [decide_eq_true e,Bool.true_and]
  cases (xs.zip ys).all fun p=>q p.1 p.2<;>rfl
 ·rw [beq_eq_false_iff_ne.2 e]
  unfold eqL
  rw [decide_eq_false e];rfl
def eqI (a b:Int):Bool:=a==b
def eqP (a b:GPost):Bool:=a.Doc==b.Doc&&eqL eqI a.At b.At
def eqE (a b:GEntry):Bool:=a.Field==b.Field&&(a.Term==b.Term&&eqL eqP a.Posts b.Posts)
theorem eqI_iff (a b:Int):eqI a b=true↔a=b:=by simp [eqI]
theorem eqP_iff (a b:GPost):eqP a b=true↔a=b:=by
 unfold eqP
 rw [Bool.and_eq_true,eqL_iff eqI_iff]
 cases a;cases b;simp
theorem eqE_iff (a b:GEntry):eqE a b=true↔a=b:=by
 unfold eqE
 rw [Bool.and_eq_true,Bool.and_eq_true,eqL_iff eqP_iff]
 cases a;cases b;simp
theorem impl_ints (F:Nat)(a b:List Int):M.slices_Equal_int F a b=some (eqL eqI a b):=by
 unfold M.slices_Equal_int
 refine eqL_for eqI fun i x y hx hy=>?_
 rw [getI_nat',hx,Option.bind_some,getI_nat',hy,Option.bind_some,if_bif]
 unfold eqI
 cases x==y<;>rfl
theorem impl_post (F:Nat)(a b:GPost):M.impl_samePost F a b=some (eqP a b):=by
 unfold M.impl_samePost eqP
 rw [impl_ints]
 cases a.Doc==b.Doc<;>rfl
theorem impl_posts (F:Nat)(a b:List GPost):M.slices_EqualFunc_Post__impl_samePost F a b=some (eqL eqP a b):=by
 unfold M.slices_EqualFunc_Post__impl_samePost
 refine eqL_for eqP fun i x y hx hy=>?_
 rw [getI_nat',hx,Option.bind_some,getI_nat',hy,Option.bind_some,impl_post,Option.bind_some,if_bif]
 cases eqP x y<;>rfl
theorem impl_entry (F:Nat)(a b:GEntry):M.impl_sameEntry F a b=some (eqE a b):=by
 unfold M.impl_sameEntry eqE
 rw [impl_posts]
 cases a.Field==b.Field
 ·rfl
 ·cases a.Term==b.Term<;>rfl
theorem impl_entries (F:Nat)(a b:List GEntry):M.slices_EqualFunc_Entry__impl_sameEntry F a b=some (eqL eqE a b):=by
 unfold M.slices_EqualFunc_Entry__impl_sameEntry
 refine eqL_for eqE fun i x y hx hy=>?_
 rw [getI_nat',hx,Option.bind_some,getI_nat',hy,Option.bind_some,impl_entry,Option.bind_some,if_bif]
 cases eqE x y<;>rfl
theorem spec_ints (F:Nat)(a b:List Int)(hF:a.length<F)(hl:a.length<9000000000000000000):M.spec_l7SameInts F a b=some (eqL eqI a b):=by
 unfold M.spec_l7SameInts
 refine eqL_while eqI F hF (fun i x y hi hx hy=>?_) ?_
 ·rw [decide_eq_true (by omega),cond_true,getI_nat',hx,Option.bind_some,getI_nat',hy,Option.bind_some,w64_succ' (by omega),if_bif]
  unfold eqI
  cases x==y<;>rfl
 ·rw [decide_eq_false (by omega)];rfl
theorem spec_sameE (F:Nat)(a b:GEntry)(h:a.Posts.length≤10000∧∀p∈a.Posts,p.At.length≤10000)(hF:10000<F):M.spec_l7SameEntry F a b=some (eqE a b):=by
 unfold M.spec_l7SameEntry eqE
 have key:=eqL_while eqP (xs:=a.Posts) (ys:=b.Posts) F (by omega) (f:=fun (s46:Int)=>(cond (decide (s46<(a.Posts.length:Int))) (Option.bind ((Option.bind (getI a.Posts s46) fun x67=>(Option.bind (getI b.Posts s46) fun x81=>(cond (!(x67.Doc==x81.Doc)) (some true) (Option.bind (getI a.Posts s46) fun x101=>(Option.bind (getI b.Posts s46) fun x115=>(Option.bind (M.spec_l7SameInts F x101.At x115.At) fun r129=>(some (!r129)))))))):Option Bool) fun o60=>(cond o60 (some (.inr (.inr false))) (some (.inl (w64 (s46+(1:Int))))))) (some (.inr (.inl ()))))) (fun i x y hi hx hy=>?_) ?_
 ·cases hf:a.Field==b.Field
  ·rfl
  cases ht:a.Term==b.Term
  ·rfl
  rw [Bool.true_and,Bool.true_and,←key]
  simp only [Bool.not_true,cond_false]
  rfl
 ·have hp:=h.2 x (List.mem_of_getElem? hx)
  rw [decide_eq_true (by omega),cond_true,getI_nat',hx,Option.bind_some,getI_nat',hy,Option.bind_some,w64_succ' (by omega),Option.bind_some,Option.bind_some,spec_ints F _ _ (by omega) (by omega),Option.bind_some,if_bif]
  unfold eqP
  cases x.Doc==y.Doc
  ·rfl
  ·cases eqL eqI x.At y.At<;>rfl
 ·rw [decide_eq_false (by omega)];rfl
theorem seg_fits {c:GConf}{docs:List GDoc}(h:docsS docs=true):Fits 7680 (segS c docs).Entries:=by
 have hall:=docs_all h
 have hput:putAll [] (occS c docs)=(keysOf (occS c docs)).map (mkE (occS c docs)):=puts_all _
 have hfin:Fits 7680 ((keysOf (occS c docs)).map (mkE (occS c docs))):=by
  have hl:=flat_le (g:=docOcc c) (m:=480) docs fun d hd=>docOcc_len (hall.2 d hd)
  have hl2:=hall.1
  have:=putAll_fits (B:=0) (occS c docs) (es:=[]) (by simp [Fits])
  rw [hput] at this
  exact this.le (by unfold occS;omega)
 have hm:=mem_segS (c:=c) (docs_good h)
 have n1:(segS c docs).Entries.Nodup:=(segS_sorted c docs).imp fun {a b} k e=>by subst e;rw [ltE_irr] at k;cases k
 have n2:((keysOf (occS c docs)).map (mkE (occS c docs))).Nodup:=(keys_apart (occS c docs)).imp fun {a b} k e=>by subst e;rw [ltE_irr] at k;rcases k with k | k<;>cases k
 have hp:=(List.perm_ext_iff_of_nodup n1 n2).2 hm
 exact⟨by rw [hp.length_eq];exact hfin.1,fun e he=>hfin.2 e ((hm e).1 he)⟩
def segOk (c:GConf)(s:GSeg):Bool:=confS c&&docsS s.Docs&&eqL eqE (segS c s.Docs).Entries s.Entries
theorem impl_ok (F:Nat)(c:GConf)(s:GSeg)(hd:s.Docs.length<9000000000000000000)(hc:c.Stops.length≤2000000)(hF:1000<F):M.impl_SegOk F c s=some (segOk c s):=by
 unfold M.impl_SegOk segOk
 rw [impl_conf F c hc (by omega),Option.bind_some,impl_segOf F c s.Docs hd hc hF]
 unfold segOf
 cases hcs:confS c
 ·rfl
 rw [Bool.not_true,cond_false,impl_docs F s.Docs hd,Option.bind_some,Option.bind_some,Bool.true_and]
 cases hds:docsS s.Docs
 ·rfl
 rw [Bool.not_true,cond_false,if_pos rfl,Option.bind_some,impl_entries];rfl
theorem spec_okB (F B:Nat)(c:GConf)(s:GSeg)(hdl:s.Docs.length≤B)(hdb: ∀d∈s.Docs,DocBig B d)(hc:ConfFit B c)(hB:B≤2000000)(hF:B+200000<F):M.spec_l7Ok F c s=some (segOk c s):=by
 unfold M.spec_l7Ok segOk
 rw [spec_conf F B c hc hB (by omega),Option.bind_some]
 cases hcs:confS c
 ·rfl
 rw [Bool.not_true,cond_false,spec_docsB F B s.Docs hdl hdb hB (by omega),Option.bind_some,Option.bind_some,Bool.true_and]
 cases hds:docsS s.Docs
 ·rfl
 have hfit:=seg_fits (c:=c) hds
 rw [Bool.not_true,cond_false,spec_seg F c s.Docs hcs (docs_fit hds) (by omega),Option.bind_some,Bool.true_and]
 have hl:=hfit.1
 refine eqL_while eqE F (by omega) (fun i x y hi hx hy=>?_) ?_
 ·have hp:=hfit.2 x (List.mem_of_getElem? hx)
  rw [decide_eq_true (by omega),cond_true,getI_nat',hx,Option.bind_some,getI_nat',hy,Option.bind_some,w64_succ' (by omega),spec_sameE F x y ⟨by omega,fun p hpp=>by have:=hp.2 p hpp;omega⟩ (by omega),Option.bind_some,if_bif]
  cases eqE x y<;>rfl
 ·rw [decide_eq_false (by omega)];rfl
theorem seg_is {c:GConf}{s:GSeg}(h:segOk c s=true):confS c=true∧docsS s.Docs=true∧s=segS c s.Docs:=by
 unfold segOk at h
 rw [Bool.and_eq_true,Bool.and_eq_true,eqL_iff eqE_iff] at h
 refine⟨h.1.1,h.1.2,?_⟩
 have:s.Entries=(segS c s.Docs).Entries:=h.2.symm
 cases s
 simp only at this
 subst this
 rfl
end Go.Fk
