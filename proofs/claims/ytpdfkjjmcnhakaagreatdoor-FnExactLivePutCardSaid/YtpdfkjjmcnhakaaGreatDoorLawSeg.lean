/-
  What the reference makes of documents: the segment. Of no program.
-/
import Derived.Test.YtpdfkjjmcnhakaaGreatDoorLawOrd
import Derived.Test.YtpdfkjjmcnhakaaGreatDoorLawTermsA
import Derived.Test.YtpdfkjjmcnhakaaGreatDoorLawDocs
set_option linter.unusedVariables false
namespace Go.Fk
open Go
theorem spec_put (F:Nat)(l:List Str)(s:Str)(hl:l.length≤1000000)(hF:l.length<F):M.spec_l7Put F l s=some (insS s l):=by
 unfold M.spec_l7Put
 have hw: ∀f,(∀(i:Nat) x,l[i]? =some x→f (i:Int)=some (if strLess x s then .inl ((i+1:Nat):Int) else .inr (i:Int)))→f (l.length:Int)=some (.inr (l.length:Int))→whileM f F (0:Int)=some ((rankS s l:Nat):Int):=fun f a b=>by
  have:=rank_whileS (f:=f) a b l.length 0 F (by omega) (by omega)
  rwa [List.drop_zero,Nat.zero_add] at this
 rw [hw _ (fun i x hx=>?_) ?_]
 ·have hr:=rankS_le s l
  have c1:subL l 0 ((rankS s l:Nat):Int)=some (l.take (rankS s l)):=by
   unfold subL
   rw [if_pos ⟨by omega,by omega,by omega⟩]
   simp
  have c2:subL l ((rankS s l:Nat):Int) (l.length:Int)=some (l.drop (rankS s l)):=subL_tail hr
  have l1:(l.take (rankS s l)).length≤1000000:=by simp;omega
  have l2:(l.drop (rankS s l)).length≤1000000:=by simp;omega
  have l0:([]:List Str).length=0:=rfl
  have hc:(cond (decide (((rankS s l:Nat):Int)<(l.length:Int))) (Option.bind (getI l ((rankS s l:Nat):Int)) fun x57=>some (x57==s)) (some false))=some ((l[rankS s l]?).elim false fun x=>x==s):=by
   rcases Nat.lt_or_ge (rankS s l) l.length with h | h
   ·rw [decide_eq_true (by omega),cond_true,getI_nat',List.getElem?_eq_getElem h];rfl
   ·rw [decide_eq_false (by omega),List.getElem?_eq_none h];rfl
  rw [Option.bind_some,Option.bind_some,hc,Option.bind_some,insS_cut,if_bif]
  cases (l[rankS s l]?).elim false fun x=>x==s
  ·simp only [cond_false]
   rw [c1,Option.bind_some,catLok (by omega),List.nil_append,Option.bind_some,catLok (by simp only [List.length_singleton];omega),Option.bind_some,c2,Option.bind_some,
    catLok (by simp only [List.length_append,List.length_singleton];omega),Option.bind_some]
  ·rfl
 ·rw [decide_eq_false (by omega)];rfl
 ·have hi:=(List.getElem?_eq_some_iff.1 hx).1
  rw [decide_eq_true (by omega),cond_true,getI_nat',hx,Option.bind_some,Option.bind_some,w64_succ' (by omega)]
  cases strLess x s<;>rfl
def fieldS (d:GDoc)(n:Str):Str:=(d.Fields.find? fun f=>f.Name==n).elim [] (·.Text)
def putsS (a:List Str)(ts:List GTerm):List Str:=ts.foldl (fun a t=>insS t.Text a) a
def namesS (docs:List GDoc):List Str:=docs.foldl (fun a d=>d.Fields.foldl (fun a f=>insS f.Name a) a) []
def ftermsS (c:GConf)(docs:List GDoc)(n:Str):List Str:=docs.foldl (fun a d=>putsS a (termsS c (fieldS d n))) []
def postS (c:GConf)(d:GDoc)(n t:Str):List Int:=(termsS c (fieldS d n)).flatMap fun x=>if x.Text==t then [x.At] else []
def docPost (c:GConf)(n t:Str)(d:GDoc):List GPost:=if decide (0<(postS c d n t).length) then [⟨d.Id,postS c d n t⟩] else []
def entryS (c:GConf)(docs:List GDoc)(n t:Str):GEntry:=⟨n,t,docs.flatMap (docPost c n t)⟩
def segS (c:GConf)(docs:List GDoc):GSeg:=⟨docs,(namesS docs).flatMap fun n=>(ftermsS c docs n).map (entryS c docs n)⟩
theorem field_len {d:GDoc}(hd:DocFit d)(n:Str):(fieldS d n).length≤1000:=by
 unfold fieldS
 cases h:d.Fields.find? fun f=>f.Name==n with
 | none=>simp
 | some f=>exact(hd.field f (List.mem_of_find?_eq_some h)).2
theorem spec_field (F:Nat)(d:GDoc)(n:Str)(hd:DocFit d)(hF:200<F):M.spec_l6Field F d n=some (fieldS d n):=by
 have h1:=hd.fields
 unfold M.spec_l6Field
 rw [find_while (xs:=d.Fields) (fun f=>f.Name==n) (fun f=>(Sum.inr f.Text:Unit⊕Str)) (e:=Sum.inl ()) F (by omega) (fun i x hx=>?_) ?_]
 ·unfold fieldS
  cases d.Fields.find? fun f=>f.Name==n<;>rfl
 ·rw [decide_eq_false (by omega)];rfl
 ·have hi:=(List.getElem?_eq_some_iff.1 hx).1
  rw [decide_eq_true (by omega),cond_true,getI_nat',hx,Option.bind_some,Option.bind_some,w64_succ' (by omega),if_bif]
  cases x.Name==n<;>rfl
theorem spec_names (F:Nat)(docs:List GDoc)(hd:DocsFit docs)(hF:200000<F):M.spec_l7Names F docs=some (namesS docs)∧(namesS docs).length≤10000:=by
 have hfew:=hd.few
 unfold M.spec_l7Names namesS
 have key:=fold_while (xs:=docs) (fun a d=>d.Fields.foldl (fun a f=>insS f.Name a) a) (fun i (a:List Str)=>a.length≤i*100) id (fun a i=>(a,i))
  (f:=fun s22=>(cond (decide (s22.2<(docs.length:Int))) (Option.bind ((Option.bind (whileM (σ:=(List Str)×Int) (τ:=(List Str)) (fun (s51:(List Str)×Int)=>(Option.bind (getI docs s22.2) fun x67=>(cond (decide (s51.2<(x67.Fields.length:Int))) (Option.bind (getI docs s22.2) fun x87=>(Option.bind (getI x87.Fields s51.2) fun x105=>(Option.bind (M.spec_l7Put F s51.1 x105.Name) fun r116=>(some (.inl (r116,(w64 (s51.2+(1:Int))))))))) (some (.inr s51.1))))) F (s22.1,(0:Int))) fun r52=>(some r52)):Option (List Str)) fun o40=>(some (.inl (o40,(w64 (s22.2+(1:Int))))))) (some (.inr s22.1))))
  [] rfl F (by omega) (by simp) (fun i d a hx ha=>?_) (fun a ha=>?_)
 ·obtain⟨k1,k2⟩:=key
  refine⟨?_,?_⟩
  ·rw [k1];rfl
  ·have:docs.length*100≤10000:=by omega
   omega
 ·have hi:=(List.getElem?_eq_some_iff.1 hx).1
  have hdd:=hd.doc d (List.mem_of_getElem? hx)
  have hfl:=hdd.fields
  have inner:=fold_while (xs:=d.Fields) (fun a (f:GField)=>insS f.Name a) (fun j (b:List Str)=>b.length≤i*100+j) id (fun a i=>(a,i))
   (f:=fun (s51:(List Str)×Int)=>(Option.bind (getI docs (i:Int)) fun x67=>(cond (decide (s51.2<(x67.Fields.length:Int))) (Option.bind (getI docs (i:Int)) fun x87=>(Option.bind (getI x87.Fields s51.2) fun x105=>(Option.bind (M.spec_l7Put F s51.1 x105.Name) fun r116=>(some (.inl (r116,(w64 (s51.2+(1:Int))))))))) (some (.inr s51.1)))))
   a rfl F (by omega) (by omega) (fun j f b hf hb=>?_) (fun b hb=>?_)
  ·obtain⟨k1,k2⟩:=inner
   refine⟨?_,by omega⟩
   simp only
   rw [decide_eq_true (by omega),cond_true,k1,Option.bind_some,Option.bind_some,w64_succ' (by omega)]
   rfl
  ·have hj:=(List.getElem?_eq_some_iff.1 hf).1
   have hil:=insS_len f.Name b
   refine⟨?_,by omega⟩
   simp only
   rw [getI_nat',hx,Option.bind_some,decide_eq_true (by omega),cond_true,Option.bind_some,getI_nat',hf,Option.bind_some,spec_put F b _ (by omega) (by omega),Option.bind_some,w64_succ' (by omega)]
  ·simp only
   rw [getI_nat',hx,Option.bind_some,decide_eq_false (by omega)];rfl
 ·simp only
  rw [decide_eq_false (by omega)];rfl
theorem fold_inv {α σ:Type}{g:σ→α→σ}(I:Nat→σ→Prop): ∀(xs:List α) (i:Nat) (s:σ),I i s→(∀i x s,x∈xs→I i s→I (i+1) (g s x))→I (i+xs.length) (xs.foldl g s)
 | [],i,s,h,_=>h
 | x::r,i,s,h,hg=>by
  rw [List.foldl_cons,List.length_cons,show i+(r.length+1)=i+1+r.length by omega]
  exact fold_inv I r (i+1) _ (hg i x s (by simp) h) fun i y s hy=>hg i y s (by simp [hy])
theorem puts_len (ts:List GTerm)(a:List Str):(putsS a ts).length≤a.length+ts.length:=by
 have:=fold_inv (g:=fun a (t:GTerm)=>insS t.Text a) (fun i b=>b.length≤a.length+i) ts 0 a (by omega) (fun i t b _ hb=>by have:=insS_len t.Text b;show (insS t.Text b).length≤_;omega)
 unfold putsS;omega
theorem fterm_one {c:GConf}{d:GDoc}(hd:DocFit d)(n:Str):(termsS c (fieldS d n)).length≤1000:=by
 have:=terms_len c (fieldS d n)
 have:=field_len hd n
 omega
theorem fterms_len (c:GConf){docs:List GDoc}(hd:DocsFit docs)(n:Str):(ftermsS c docs n).length≤100000:=by
 have hfew:=hd.few
 have:=fold_inv (g:=fun a d=>putsS a (termsS c (fieldS d n))) (fun i b=>b.length≤i*1000) docs 0 [] (by simp) (fun i d b hm hb=>by have:=puts_len (termsS c (fieldS d n)) b;have:=fterm_one (c:=c) (hd.doc d hm) n;show (putsS b _).length≤_;omega)
 unfold ftermsS;omega
theorem spec_fterms (F:Nat)(c:GConf)(docs:List GDoc)(n:Str)(hc:confS c=true)(hd:DocsFit docs)(hF:200000<F):M.spec_l7Terms F c docs n=some (ftermsS c docs n):=by
 have hfew:=hd.few
 unfold M.spec_l7Terms ftermsS
 rw [(fold_while (xs:=docs) (fun a d=>putsS a (termsS c (fieldS d n))) (fun i (a:List Str)=>a.length≤i*1000) id (fun a i=>(a,i)) [] rfl F (by omega) (by simp) (fun i d a hx ha=>?_) (fun a ha=>?_)).1]
 ·rfl
 ·have hi:=(List.getElem?_eq_some_iff.1 hx).1
  have hdd:=hd.doc d (List.mem_of_getElem? hx)
  have hfl:=field_len hdd n
  have hone:=fterm_one (c:=c) hdd n
  refine⟨?_,?_⟩
  ·simp only
   rw [decide_eq_true (by omega),cond_true,getI_nat',hx,Option.bind_some,spec_field F d n hdd (by omega),Option.bind_some,spec_terms F c _ hc (by omega) (by omega),Option.bind_some]
   rw [(fold_while (xs:=termsS c (fieldS d n)) (fun a (t:GTerm)=>insS t.Text a) (fun j (b:List Str)=>b.length≤i*1000+j) id (fun a i=>(a,i)) a rfl F (by omega) (by rw [Nat.add_zero];exact ha) (fun j t b ht hb=>?_) (fun b hb=>?_)).1,Option.bind_some,Option.bind_some,w64_succ' (by omega)]
   ·rfl
   ·have hj:=(List.getElem?_eq_some_iff.1 ht).1
    have hil:=insS_len t.Text b
    refine⟨?_,by omega⟩
    simp only
    rw [decide_eq_true (by omega),cond_true,getI_nat',ht,Option.bind_some,spec_put F b _ (by omega) (by omega),Option.bind_some,w64_succ' (by omega)]
   ·simp only
    rw [decide_eq_false (by omega)];rfl
  ·have:=puts_len (termsS c (fieldS d n)) a
   omega
 ·simp only
  rw [decide_eq_false (by omega)];rfl
theorem post_len {c:GConf}{d:GDoc}(hd:DocFit d)(n t:Str):(postS c d n t).length≤1000:=by
 have h1:=flat_le (g:=fun x:GTerm=>if x.Text==t then [x.At] else []) (m:=1) (termsS c (fieldS d n)) (fun x _=>by split<;>simp)
 have h2:=fterm_one (c:=c) hd n
 unfold postS;omega
theorem spec_post (F:Nat)(c:GConf)(d:GDoc)(n t:Str)(hc:confS c=true)(hd:DocFit d)(hF:200000<F):M.spec_l7Post F c d n t=some (postS c d n t):=by
 have hfl:=field_len hd n
 have hone:=fterm_one (c:=c) hd n
 have hpl:=post_len (c:=c) hd n t
 unfold M.spec_l7Post
 rw [spec_field F d n hd (by omega),Option.bind_some,spec_terms F c _ hc (by omega) (by omega),Option.bind_some]
 rw [fm_while (xs:=termsS c (fieldS d n)) (fun x:GTerm=>if x.Text==t then [x.At] else []) 1000 F (by omega) (fun i x acc hx hB=>?_) (fun acc=>?_) [] (by rw [List.nil_append];exact hpl),List.nil_append,Option.bind_some,Option.bind_some]
 ·rfl
 ·have hi:=(List.getElem?_eq_some_iff.1 hx).1
  rw [decide_eq_true (by omega),cond_true,getI_nat',hx,Option.bind_some,Option.bind_some,w64_succ' (by omega)]
  revert hB
  rw [if_bif]
  cases x.Text==t
  ·intro _;simp
  ·intro hB
   simp only [cond_true] at hB ⊢
   rw [catLok (by simp at hB ⊢;omega)];rfl
 ·rw [decide_eq_false (by omega)];rfl
theorem docPost_one (c:GConf)(n t:Str)(d:GDoc):(docPost c n t d).length≤1:=by unfold docPost;split<;>simp
theorem spec_entry (F:Nat)(c:GConf)(docs:List GDoc)(n t:Str)(hc:confS c=true)(hd:DocsFit docs)(hF:200000<F):M.spec_l7Entry F c docs n t=some (entryS c docs n t):=by
 have hfew:=hd.few
 unfold M.spec_l7Entry
 have hfold:entryS c docs n t=docs.foldl (fun e d=>GEntry.mk e.Field e.Term (e.Posts++docPost c n t d)) (GEntry.mk n t []):=by
  have gen: ∀(l:List GDoc) (ps:List GPost),l.foldl (fun e d=>GEntry.mk e.Field e.Term (e.Posts++docPost c n t d)) (GEntry.mk n t ps)=GEntry.mk n t (ps++l.flatMap (docPost c n t)):=by
   intro l
   induction l with
   | nil=>intro ps;simp
   | cons d r ih=>intro ps;rw [List.foldl_cons,ih,List.flatMap_cons,List.append_assoc]
  rw [gen];rfl
 rw [hfold]
 rw [(fold_while (xs:=docs) (fun e d=>GEntry.mk e.Field e.Term (e.Posts++docPost c n t d)) (fun i (e:GEntry)=>e.Posts.length≤i∧e.Field=n∧e.Term=t) id (fun e i=>(i,e)) (GEntry.mk n t []) rfl F (by omega) ⟨by simp,rfl,rfl⟩ (fun i d e hx ⟨he,e1,e2⟩=>?_) (fun a ha=>?_)).1]
 ·rfl
 ·have hi:=(List.getElem?_eq_some_iff.1 hx).1
  have hdd:=hd.doc d (List.mem_of_getElem? hx)
  have hp1:=docPost_one c n t d
  refine⟨?_,by simp only [List.length_append];omega,e1,e2⟩
  simp only
  rw [decide_eq_true (by omega),cond_true,getI_nat',hx,Option.bind_some,spec_post F c d n t hc hdd hF,Option.bind_some,Option.bind_some,w64_succ' (by omega)]
  unfold docPost
  by_cases h0:0<(postS c d n t).length
  ·rw [decide_eq_true (by omega),cond_true,catLok (by simp only [List.length_singleton];omega),Option.bind_some,decide_eq_true h0,if_pos rfl]
  ·rw [decide_eq_false (by omega),cond_false,decide_eq_false h0,if_neg (by simp),List.append_nil]
 ·simp only
  rw [decide_eq_false (by omega)];rfl
theorem names_len {docs:List GDoc}(hd:DocsFit docs):(namesS docs).length≤10000:=(spec_names 200001 docs hd (by omega)).2
theorem seg_flat {c:GConf}{docs:List GDoc}{ns:List Str}: ∀(l:List Str) (es:List GEntry),l.foldl (fun s n=>(ftermsS c docs n).foldl (fun s t=>GSeg.mk s.Docs (s.Entries++[entryS c docs n t])) s) (GSeg.mk [] es)=GSeg.mk [] (es++l.flatMap fun n=>(ftermsS c docs n).map (entryS c docs n)):=by
 intro l
 induction l with
 | nil=>intro es;simp
 | cons n r ih=>
  intro es
  have inner: ∀(ts:List Str) (es:List GEntry),ts.foldl (fun s t=>GSeg.mk s.Docs (s.Entries++[entryS c docs n t])) (GSeg.mk [] es)=GSeg.mk [] (es++ts.map (entryS c docs n)):=by
   intro ts
   induction ts with
   | nil=>intro es;simp
   | cons t r ih=>intro es;rw [List.foldl_cons,ih,List.map_cons,List.append_assoc];rfl
  rw [List.foldl_cons,inner,ih,List.flatMap_cons,List.append_assoc]
theorem docs_flat {es:List GEntry}: ∀(l ds:List GDoc),l.foldl (fun s d=>GSeg.mk (s.Docs++[d]) s.Entries) (GSeg.mk ds es)=GSeg.mk (ds++l) es:=by
 intro l
 induction l with
 | nil=>intro ds;simp
 | cons d r ih=>intro ds;rw [List.foldl_cons,ih,List.append_assoc];rfl
theorem spec_seg (F:Nat)(c:GConf)(docs:List GDoc)(hc:confS c=true)(hd:DocsFit docs)(hF:200000<F):M.spec_l7Of F c docs=some (segS c docs):=by
 have hfew:=hd.few
 have hnl:=names_len hd
 unfold M.spec_l7Of
 rw [(spec_names F docs hd hF).1,Option.bind_some]
 rw [(fold_while (xs:=namesS docs) (fun s n=>(ftermsS c docs n).foldl (fun s t=>GSeg.mk s.Docs (s.Entries++[entryS c docs n t])) s) (fun i (s:GSeg)=>s.Entries.length≤i*100000) id (fun e i=>(i,e)) (GSeg.mk [] []) rfl F (by omega) (by simp) (fun i n s hx hs=>?_) (fun a ha=>?_)).1]
 ·rw [seg_flat (ns:=[]),Option.bind_some,Option.bind_some]
  rw [(fold_while (xs:=docs) (fun s d=>GSeg.mk (s.Docs++[d]) s.Entries) (fun i (s:GSeg)=>s.Docs.length≤i) id (fun e i=>(i,e)) _ rfl F (by omega) (by simp) (fun i d s hx hs=>?_) (fun a ha=>?_)).1]
  ·rw [docs_flat,Option.bind_some,Option.bind_some];rfl
  ·have hi:=(List.getElem?_eq_some_iff.1 hx).1
   have hdd:=hd.doc d (List.mem_of_getElem? hx)
   have hf1:=hdd.fields
   have hf2:=hdd.nums
   refine⟨?_,by simp only [List.length_append,List.length_singleton];omega⟩
   simp only
   rw [decide_eq_true (by omega),cond_true,getI_nat',hx,Option.bind_some,spec_clone F d (by omega) (by omega),Option.bind_some,catLok (by simp only [List.length_singleton];omega),Option.bind_some,w64_succ' (by omega)]
  ·simp only
   rw [decide_eq_false (by omega)];rfl
 ·have hi:=(List.getElem?_eq_some_iff.1 hx).1
  have hft:=fterms_len c hd n
  have inner:=fold_inv (g:=fun s t=>GSeg.mk s.Docs (s.Entries++[entryS c docs n t])) (fun j (b:GSeg)=>b.Entries.length≤i*100000+j) (ftermsS c docs n) 0 s (by rw [Nat.add_zero];exact hs) (fun j t b _ hb=>by simp only [List.length_append,List.length_singleton];omega)
  refine⟨?_,by omega⟩
  simp only
  rw [decide_eq_true (by omega),cond_true,getI_nat',hx,Option.bind_some,spec_fterms F c docs n hc hd hF,Option.bind_some]
  rw [(fold_while (xs:=ftermsS c docs n) (fun s t=>GSeg.mk s.Docs (s.Entries++[entryS c docs n t])) (fun j (b:GSeg)=>b.Entries.length≤i*100000+j) id (fun e i=>(i,e)) s rfl F (by omega) (by rw [Nat.add_zero];exact hs) (fun j t b ht hb=>?_) (fun b hb=>?_)).1,Option.bind_some,Option.bind_some,w64_succ' (by omega)]
  ·rfl
  ·have hj:=(List.getElem?_eq_some_iff.1 ht).1
   refine⟨?_,by simp only [List.length_append,List.length_singleton];omega⟩
   simp only
   rw [decide_eq_true (by omega),cond_true,Option.bind_some,getI_nat',ht,Option.bind_some,spec_entry F c docs n t hc hd hF,Option.bind_some,catLok (by simp only [List.length_singleton];omega),Option.bind_some,w64_succ' (by omega)]
  ·simp only
   rw [decide_eq_false (by omega)];rfl
 ·simp only
  rw [decide_eq_false (by omega)];rfl
end Go.Fk
