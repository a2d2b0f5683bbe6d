import Derived.Test.YtpdfkjjmcnhakaaGreatDoorLawSegIJ
/-
  The program's segment is the reference's. Of no program.
-/
set_option linter.unusedVariables false
namespace Go.Fk
open Go
theorem or2_ok (F:Nat)(a b:Int):M.cmp_Or_int F [a,b]=some (if a=0 then b else a):=by
 unfold M.cmp_Or_int
 simp only [List.length_cons,List.length_nil,forFrom]
 have g0:getI [a,b] ((0:Nat):Int)=some a:=rfl
 have g1:getI [a,b] ((0+1:Nat):Int)=some b:=rfl
 rw [g0]
 by_cases h:a=0
 ·subst h
  simp only [Option.bind_some,beq_self_eq_true,Bool.not_true,cond_false,Sum.elim_inl]
  rw [g1]
  by_cases hb:b=0
  ·subst hb;rfl
  ·rw [Option.bind_some,beq_eq_false_iff_ne.2 hb];rfl
 ·rw [Option.bind_some,beq_eq_false_iff_ne.2 h,if_neg h];rfl
def ordE (a b:GEntry):Int:=if cmpS a.Field b.Field=0 then cmpS a.Term b.Term else cmpS a.Field b.Field
theorem ordE_ok (F:Nat)(a b:GEntry):M.impl_SegOf_1 F a b=some (ordE a b):=by
 unfold M.impl_SegOf_1
 rw [cmp_str,Option.bind_some,cmp_str,Option.bind_some,or2_ok];rfl
theorem cmpS_neg (x y:Str):cmpS x y<0↔strLess x y=true:=by
 unfold cmpS
 cases strLess x y
 ·cases x==y<;>simp
 ·simp
theorem cmpS_zero (x y:Str):cmpS x y=0↔x=y:=by
 unfold cmpS
 cases h:strLess x y
 ·cases h2:x==y
  ·have:=beq_eq_false_iff_ne.1 h2
   simp [this]
  ·have:=eq_of_beq h2
   simp [this]
 ·rw [if_pos rfl]
  refine⟨fun e=>by omega,fun e=>?_⟩
  subst e;rw [sl_irrefl] at h;cases h
theorem ordE_lt (F:Nat)(a b:GEntry):ltO (fun a b=>M.impl_SegOf_1 F a b) a b=ltE a b:=by
 show decide ((M.impl_SegOf_1 F a b).getD 0<0)=_
 rw [ordE_ok]
 show decide (ordE a b<0)=_
 rw [Bool.eq_iff_iff,decide_eq_true_iff,ltE_iff]
 unfold ordE
 by_cases h:cmpS a.Field b.Field=0
 ·rw [if_pos h,cmpS_neg]
  have e:=(cmpS_zero _ _).1 h
  rw [e,sl_irrefl];simp
 ·rw [if_neg h,cmpS_neg]
  have e:a.Field≠b.Field:=fun e=>h ((cmpS_zero _ _).2 e)
  simp [e]
def Fits (B:Nat)(es:List GEntry):Prop:=es.length≤B∧∀e∈es,e.Posts.length≤B∧∀p∈e.Posts,p.At.length≤B
theorem addPost_fits {B:Nat}{ps:List GPost}{id a:Int}(h:ps.length≤B∧∀p∈ps,p.At.length≤B):(addPost ps id a).length≤B+1∧∀p∈addPost ps id a,p.At.length≤B+1:=by
 obtain⟨h1,h2⟩:=h
 cases hn:needPost ps id
 ·rcases List.eq_nil_or_concat ps with rfl | ⟨qs,p,rfl⟩
  ·simp [needPost] at hn
  ·have e:addPost (qs.concat p) id a=qs++[GPost.mk p.Doc (p.At++[a])]:=by
    unfold addPost;rw [hn];simp
   rw [e]
   simp only [List.concat_eq_append,List.length_append,List.length_singleton] at h1 h2 ⊢
   refine⟨by omega,fun q hq=>?_⟩
   rcases List.mem_append.1 hq with hq | hq
   ·have:=h2 q (by simp [hq]);omega
   ·rw [List.mem_singleton] at hq;subst hq
    have:=h2 p (by simp)
    simp only [List.length_append,List.length_singleton];omega
 ·rw [addPost_new hn]
  refine⟨by simp only [List.length_append,List.length_singleton];omega,fun q hq=>?_⟩
  rcases List.mem_append.1 hq with hq | hq
  ·have:=h2 q hq;omega
  ·rw [List.mem_singleton] at hq;subst hq;simp
theorem put_fits {B:Nat}{o:Occ}: ∀{es:List GEntry},Fits B es→Fits (B+1) (putS o es):=by
 intro es h
 have hl: ∀es:List GEntry,(putS o es).length≤es.length+1:=by
  intro es
  induction es with
  | nil=>simp [putS]
  | cons e r ih=>unfold putS;split<;>simp only [List.length_cons]<;>omega
 refine⟨by have:=hl es;have:=h.1;omega,?_⟩
 have gen: ∀es:List GEntry,(∀e∈es,e.Posts.length≤B∧∀p∈e.Posts,p.At.length≤B)→∀e∈putS o es,e.Posts.length≤B+1∧∀p∈e.Posts,p.At.length≤B+1:=by
  intro es
  induction es with
  | nil=>
   intro _ e he
   rw [putS,List.mem_singleton] at he;subst he
   exact addPost_fits (B:=B) (ps:=[]) ⟨Nat.zero_le _,fun p hp=>by cases hp⟩
  | cons x r ih=>
   intro hx e he
   unfold putS at he
   split at he
   ·rcases List.mem_cons.1 he with rfl | he
    ·exact addPost_fits (hx x (by simp))
    ·have:=hx e (by simp [he]);exact⟨by omega,fun p hp=>by have:=this.2 p hp;omega⟩
   ·rcases List.mem_cons.1 he with rfl | he
    ·have:=hx e (by simp);exact⟨by omega,fun p hp=>by have:=this.2 p hp;omega⟩
    ·exact ih (fun y hy=>hx y (by simp [hy])) e he
 exact gen es h.2
def keyP (n t:Str)(e:GEntry):Bool:=e.Field==n&&e.Term==t
theorem put_idx (o:Occ): ∀es:List GEntry,putS o es=match es.findIdx? (keyP o.1.1 o.1.2) with
  | none=>es++[⟨o.1.1,o.1.2,addPost [] o.2.1 o.2.2⟩]
  | some j=>(es[j]?).elim es fun e=>es.set j ⟨e.Field,e.Term,addPost e.Posts o.2.1 o.2.2⟩
 | []=>rfl
 | e::r=>by
  have ih:=put_idx o r
  rw [putS,List.findIdx?_cons]
  have hk:keyP o.1.1 o.1.2 e=(e.Field==o.1.1&&e.Term==o.1.2):=rfl
  rw [hk,if_bif,if_bif]
  cases (e.Field==o.1.1&&e.Term==o.1.2)
  ·simp only [cond_false]
   rw [ih]
   cases r.findIdx? (keyP o.1.1 o.1.2) with
   | none=>rfl
   | some j=>
    simp only [Option.map_some,List.getElem?_cons_succ]
    cases r[j]? <;>rfl
  ·rfl
theorem impl_index (F:Nat)(es:List GEntry)(n:Str)(t:GTerm):M.slices_IndexFunc_Entry__impl_Seg_put_1 F es n t=some ((es.findIdx? (keyP n t.Text)).elim (-1:Int) fun j=>(j:Int)):=by
 unfold M.slices_IndexFunc_Entry__impl_Seg_put_1
 rw [idx_from (keyP n t.Text) (fun i x hx=>?_)]
 ·cases es.findIdx? (keyP n t.Text)<;>rfl
 ·rw [getI_nat',hx,Option.bind_some]
  unfold M.impl_Seg_put_1
  have:(cond (x.Field==n) (some (x.Term==t.Text)) (some false):Option Bool)=some (keyP n t.Text x):=by
   unfold keyP;cases x.Field==n<;>rfl
  rw [this,Option.bind_some,if_bif]
  cases keyP n t.Text x<;>rfl
theorem impl_put (F B:Nat)(docs:List GDoc)(es:List GEntry)(n:Str)(t:GTerm)(id:Int)(h:Fits B es)(hB:B≤1000000):M.impl_Seg_put F ⟨docs,es⟩ n t id=some ⟨docs,putS ((n,t.Text),(id,t.At)) es⟩:=by
 have h1:=h.1
 have hpost: ∀ps:List GPost,(ps.length≤B∧∀p∈ps,p.At.length≤B)→∃p at_,(cond (needPost ps id) (catL 32 ps [GPost.mk id []]) (some ps))=some (if needPost ps id then ps++[GPost.mk id []] else ps)∧(if needPost ps id then ps++[GPost.mk id []] else ps).getLast?=some p∧
   catL 8 p.At [t.At]=some at_∧addPost ps id t.At=(if needPost ps id then ps++[GPost.mk id []] else ps).dropLast++[GPost.mk p.Doc at_]:=fun ps ⟨g1,g2⟩=>by
  cases hn:needPost ps id
  ·rcases List.eq_nil_or_concat ps with rfl | ⟨qs,p,rfl⟩
   ·simp [needPost] at hn
   ·have:=g2 p (by simp)
    refine⟨p,p.At++[t.At],rfl,by simp,catLok (by simp only [List.length_singleton];omega),?_⟩
    unfold addPost;rw [hn];simp
  ·refine⟨GPost.mk id [],[t.At],?_,by simp,catLok (by simp),?_⟩
   ·rw [cond_true,catLok (by simp only [List.length_singleton];omega)];rfl
   ·unfold addPost;rw [hn];simp
 unfold M.impl_Seg_put
 rw [impl_index,Option.bind_some,put_idx]
 cases hf:es.findIdx? (keyP n t.Text) with
 | none=>
  obtain⟨p,at_,e1,e2,e3,e4⟩:=hpost [] ⟨by simp,by simp⟩
  rw [show (Option.elim (none:Option Nat) (-1:Int) fun j=>(j:Int))= -1 from rfl]
  rw [decide_eq_true (by decide),cond_true,cond_true]
  dsimp only
  rw [catLok (by simp only [List.length_singleton];omega),Option.bind_some,getI_nat',List.getElem?_append_right (Nat.le_refl _),Nat.sub_self]
  simp only [List.getElem?_cons_zero,Option.bind_some]
  rw [e1,Option.bind_some,e2,Option.bind_some,e3,Option.bind_some,←e4]
  simp
 | some j=>
  have hj:=(List.findIdx?_eq_some_iff_getElem.1 hf).1
  have hfit:=h.2 es[j] (List.getElem_mem hj)
  obtain⟨p,at_,e1,e2,e3,e4⟩:=hpost es[j].Posts hfit
  rw [show (Option.elim (some j) (-1:Int) fun j=>(j:Int))=(j:Int) from rfl]
  rw [decide_eq_false (by omega),cond_false,cond_false]
  dsimp only
  rw [Option.bind_some,getI_nat',List.getElem?_eq_getElem hj,Option.bind_some,e1,Option.bind_some,e2,Option.bind_some,e3,Option.bind_some,←e4]
  rfl
end Go.Fk
set_option linter.unusedVariables false
namespace Go.Fk
open Go
theorem adj_pair {α:Type}{lt:α→α→Bool}(tr: ∀{a b c},lt a b=true→lt b c=true→lt a c=true): ∀l:List α,(∀i,(hi:i+1<l.length)→lt l[i] l[i+1]=true)→l.Pairwise fun a b=>lt a b=true
 | [],_=>List.Pairwise.nil
 | a::l,hl=>by
  have ih':=adj_pair (lt:=lt) tr l (fun i hi=>by have:=hl (i+1) (by simp only [List.length_cons];omega);simpa using this)
  refine List.pairwise_cons.2 ⟨fun c hc=>?_,ih'⟩
  cases l with
  | nil=>cases hc
  | cons b l=>
   have hab:lt a b=true:=hl 0 (by simp)
   rcases List.mem_cons.1 hc with rfl | hc
   ·exact hab
   ·exact tr hab ((List.pairwise_cons.1 ih').1 c hc)
theorem docS_parts {d:GDoc}(h:docS d=true):(pairS fieldOk fieldLt d.Fields=true∧pairS attrOk attrLt d.Nums=true)∧d.Fields.length≤3∧d.Nums.length≤3:=by
 unfold docS at h
 simp only [Bool.and_eq_true,decide_eq_true_iff] at h
 exact⟨h.1,by omega,by omega⟩
theorem text_len {s:Str}(h:textS s=true):s.length≤160:=by
 unfold textS at h
 simp only [Bool.and_eq_true,decide_eq_true_iff] at h
 omega
theorem doc_texts {d:GDoc}(h:docS d=true){f:GField}(hf:f∈d.Fields):wordS f.Name=true∧textS f.Text=true:=by
 have:=(pairS_ok (docS_parts h).1.1).1 f hf
 unfold fieldOk at this
 simpa using this
theorem doc_fit {d:GDoc}(h:docS d=true):DocFit d:=by
 obtain⟨⟨h1,h2⟩,h3,h4⟩:=docS_parts h
 refine⟨by omega,by omega,fun f hf=>?_,fun a ha=>?_⟩
 ·obtain⟨k1,k2⟩:=doc_texts h hf
  have:=text_len k2
  have:=word_le k1
  omega
 ·have:=(pairS_ok h2).1 a ha
  unfold attrOk at this
  simp only [Bool.and_eq_true] at this
  have:=word_le this.1
  omega
theorem doc_names {d:GDoc}(h:docS d=true):d.Fields.Pairwise fun f g=>f.Name≠g.Name:=by
 have h1:=adj_pair (lt:=fieldLt) (fun {a b c} k1 k2=>sl_trans k1 k2) d.Fields (pairS_ok (docS_parts h).1.1).2
 refine h1.imp fun {a b} k e=>?_
 unfold fieldLt at k
 rw [e,sl_irrefl] at k;cases k
theorem docs_all {docs:List GDoc}(h:docsS docs=true):docs.length≤16∧∀d∈docs,docS d=true:=by
 unfold docsS at h
 rw [Bool.and_eq_true,decide_eq_true_iff] at h
 exact⟨by omega,(pairS_ok h.1).1⟩
theorem docs_fit {docs:List GDoc}(h:docsS docs=true):DocsFit docs:=⟨by have:=(docs_all h).1;omega,fun d hd=>doc_fit ((docs_all h).2 d hd)⟩
theorem docs_good {docs:List GDoc}(h:docsS docs=true):DocsGood docs:=⟨(docs_ids h).2.2,fun d hd=>doc_names ((docs_all h).2 d hd)⟩
theorem fold_forE_inv_at {α σ:Type}{xs:List α}{g:σ→α→σ}{I:Nat→σ→Prop}{f:Nat→σ→Option σ}(h: ∀i x s,xs[i]? =some x→I i s→f i s=some (g s x)∧I (i+1) (g s x)): ∀k i s,i+k=xs.length→I i s→forE f k i s=some ((xs.drop i).foldl g s)
 | 0,i,s,e,_=>by rw [forE,List.drop_of_length_le (by omega)];rfl
 | k+1,i,s,e,hI=>by
  have hi:i<xs.length:=by omega
  obtain⟨h1,h2⟩:=h i xs[i] s (List.getElem?_eq_getElem hi) hI
  rw [forE,h1,List.drop_eq_getElem_cons hi,Option.bind_some,List.foldl_cons]
  exact fold_forE_inv_at h k (i+1) _ (by omega) h2
theorem fold_forE_inv {α σ:Type}{xs:List α}(g:σ→α→σ)(I:Nat→σ→Prop){f:Nat→σ→Option σ}(s:σ)(hI:I 0 s)(h: ∀i x s,xs[i]? =some x→I i s→f i s=some (g s x)∧I (i+1) (g s x)):forE f xs.length 0 s=some (xs.foldl g s):=by
 have:=fold_forE_inv_at h xs.length 0 s (by omega) hI
 rwa [List.drop_zero] at this
def putAll (es:List GEntry)(os:List Occ):List GEntry:=os.foldl (fun es o=>putS o es) es
theorem putAll_fits {B:Nat}: ∀(os:List Occ) {es:List GEntry},Fits B es→Fits (B+os.length) (putAll es os)
 | [],es,h=>h
 | o::os,es,h=>by
  have:=putAll_fits os (put_fits (o:=o) h)
  rw [List.length_cons,show B+(os.length+1)=B+1+os.length by omega]
  exact this
theorem Fits.le {B B':Nat}{es:List GEntry}(h:Fits B es)(hle:B≤B'):Fits B' es:=
 ⟨Nat.le_trans h.1 hle,fun e he=>⟨Nat.le_trans (h.2 e he).1 hle,fun p hp=>Nat.le_trans ((h.2 e he).2 p hp) hle⟩⟩
theorem putAll_flat {α:Type}(h:α→List Occ)(docs:List GDoc): ∀(l:List α) (es:List GEntry),l.foldl (fun s x=>GSeg.mk s.Docs (putAll s.Entries (h x))) (GSeg.mk docs es)=GSeg.mk docs (putAll es (l.flatMap h))
 | [],es=>rfl
 | x::l,es=>by
  rw [List.foldl_cons,putAll_flat h docs l,List.flatMap_cons]
  unfold putAll
  rw [List.foldl_append]
theorem impl_clones (F:Nat)(docs:List GDoc)(h:DocsFit docs):M.impl_cloneDocs F docs=some docs:=by
 have hfew:=h.few
 unfold M.impl_cloneDocs
 rw [fm_forE (fun d:GDoc=>[d]) 1000 (fun i d acc hx hB=>?_) [] (by simp;omega)]
 ·simp
 ·have hdd:=h.doc d (List.mem_of_getElem? hx)
  have h1:=hdd.fields
  have h2:=hdd.nums
  rw [getI_nat',hx,Option.bind_some,impl_clone F d (by omega) (by omega),Option.bind_some,catLok (by simp at hB ⊢;omega)];rfl
theorem occ_len {c:GConf}{id:Int}{f:GField}(h:textS f.Text=true):(fieldOcc c id f).length≤160:=by
 have:=terms_len c f.Text
 have:=text_len h
 unfold fieldOcc
 rw [List.length_map];omega
theorem docOcc_len {c:GConf}{d:GDoc}(h:docS d=true):(docOcc c d).length≤480:=by
 have h1:=flat_le (g:=fieldOcc c d.Id) (m:=160) d.Fields fun f hf=>occ_len (doc_texts h hf).2
 have h2:=(docS_parts h).2.1
 have:d.Fields.length*160≤480:=by omega
 unfold docOcc;omega
def segOf (c:GConf)(docs:List GDoc):GSeg:=if confS c&&docsS docs then segS c docs else ⟨[],[]⟩
theorem impl_segOf (F:Nat)(c:GConf)(docs:List GDoc)(hd:docs.length<9000000000000000000)(hc:c.Stops.length≤2000000)(hF:1000<F):M.impl_SegOf F c docs=some (segOf c docs):=by
 unfold M.impl_SegOf segOf
 rw [impl_conf F c hc (by omega),Option.bind_some]
 cases hcs:confS c
 ·rfl
 rw [Bool.not_true,cond_false,impl_docs F docs hd,Option.bind_some,Option.bind_some,Bool.true_and]
 cases hds:docsS docs
 ·rfl
 have hall:=docs_all hds
 rw [Bool.not_true,cond_false,if_pos rfl,impl_clones F docs (docs_fit hds),Option.bind_some]
 rw [fold_forE_inv (xs:=docs) (fun s d=>GSeg.mk s.Docs (putAll s.Entries (docOcc c d))) (fun i s=>s.Docs=docs∧Fits (i*480) s.Entries) ⟨docs,[]⟩ ⟨rfl,by simp [Fits]⟩ (fun i d s hx ⟨e,hs⟩=>?_)]
 ·rw [putAll_flat,Option.bind_some,Option.bind_some]
  have hocc:docs.flatMap (docOcc c)=occS c docs:=rfl
  have hfin:Fits 7680 (putAll [] (occS c docs)):=by
   have hl:=flat_le (g:=docOcc c) (m:=480) docs fun d hd=>docOcc_len (hall.2 d hd)
   have hl2:=hall.1
   have:=putAll_fits (B:=0) (occS c docs) (es:=[]) (by simp [Fits])
   exact this.le (by unfold occS;omega)
  rw [hocc]
  have hput:putAll [] (occS c docs)=(keysOf (occS c docs)).map (mkE (occS c docs)):=puts_all _
  rw [sortO_is (t:=(segS c docs).Entries) (ordE_lt F) (fun a b=>by rw [ordE_ok];rfl) ltE_irr ltE_tr ltE_ng (by rw [hput];exact keys_apart _) (segS_sorted c docs) (fun x=>by rw [hput];exact mem_segS (docs_good hds) x) (by have:=hfin.1;show (putAll [] (occS c docs)).length≤_;omega),Option.bind_some]
  rfl
 ·have hdi:=hall.2 d (List.mem_of_getElem? hx)
  have hi:=(List.getElem?_eq_some_iff.1 hx).1
  have h16:=hall.1
  have h3:=(docS_parts hdi).2.1
  have hol:=docOcc_len (c:=c) hdi
  refine⟨?_,e,(putAll_fits _ hs).le (by omega)⟩
  obtain⟨sd,se⟩:=s
  dsimp only at e hs ⊢
  subst e
  rw [getI_nat',hx,Option.bind_some]
  rw [fold_forE_inv (xs:=d.Fields) (fun s f=>GSeg.mk s.Docs (putAll s.Entries (fieldOcc c d.Id f))) (fun j s=>s.Docs=sd∧Fits (i*480+j*160) s.Entries) ⟨sd,se⟩ (by rw [Nat.zero_mul,Nat.add_zero];exact⟨rfl,hs⟩) (fun j f s hf ⟨e,hs⟩=>?_)]
  ·rw [putAll_flat,Option.bind_some,Option.bind_some];rfl
  ·have hft:=(doc_texts hdi (List.mem_of_getElem? hf)).2
   have htl:=text_len hft
   have hj:=(List.getElem?_eq_some_iff.1 hf).1
   have hfl:=occ_len (c:=c) (id:=d.Id) hft
   refine⟨?_,e,(putAll_fits _ hs).le (by omega)⟩
   obtain⟨sd',se'⟩:=s
   dsimp only at e hs ⊢
   subst e
   rw [getI_nat',hf,Option.bind_some,impl_terms F c f.Text (by omega) (by omega) (by omega),hcs,hft,Bool.true_and,if_pos rfl,Option.bind_some]
   have htm:=terms_len c f.Text
   rw [fold_forE_inv (xs:=termsS c f.Text) (fun s x=>GSeg.mk s.Docs (putAll s.Entries [((f.Name,x.Text),(d.Id,x.At))])) (fun k s=>s.Docs=sd'∧Fits (i*480+j*160+k) s.Entries) ⟨sd',se'⟩ (by rw [Nat.add_zero];exact⟨rfl,hs⟩) (fun k x s hxk ⟨e,hs⟩=>?_)]
   ·rw [putAll_flat (fun x:GTerm=>[((f.Name,x.Text),(d.Id,x.At))]),Option.bind_some,Option.bind_some]
    congr 2
    unfold fieldOcc
    rw [List.map_eq_flatMap]
   ·have hk:=(List.getElem?_eq_some_iff.1 hxk).1
    refine⟨?_,e,by have h1:=putAll_fits [((f.Name,x.Text),(d.Id,x.At))] hs;rw [List.length_singleton,Nat.add_assoc] at h1;exact h1⟩
    obtain⟨sd'',se''⟩:=s
    dsimp only at e hs ⊢
    subst e
    rw [getI_nat',hxk,Option.bind_some,impl_put F _ sd'' se'' f.Name x d.Id hs (by omega),Option.bind_some]
    rfl
end Go.Fk
set_option linter.unusedVariables false
namespace Go.Fk
open Go
def eqL {α:Type}(q:α→α→Bool)(xs ys:List α):Bool:=decide ((xs.length:Int)=ys.length)&&(xs.zip ys).all fun p=>q p.1 p.2
theorem eqL_iff {α:Type}{q:α→α→Bool}(h: ∀a b,q a b=true↔a=b): ∀xs ys:List α,eqL q xs ys=true↔xs=ys
 | [],[]=>by simp [eqL]
 | [],y::ys=>by simp [eqL];omega
 | x::xs,[]=>by simp [eqL];omega
 | x::xs,y::ys=>by
  have ih:=eqL_iff h xs ys
  unfold eqL at ih ⊢
  rw [Bool.and_eq_true,decide_eq_true_iff] at ih ⊢
  rw [List.zip_cons_cons,List.all_cons,Bool.and_eq_true,h,List.cons.injEq,←ih]
  simp only [List.length_cons]
  constructor
  ·rintro⟨h1,h2,h3⟩;exact⟨h2,by omega,h3⟩
  ·rintro⟨h1,h2,h3⟩;exact⟨by omega,h1,h3⟩
theorem zip_at {α:Type}{xs ys:List α}{i:Nat}{p:α×α}(h:(xs.zip ys)[i]? =some p):xs[i]? =some p.1∧ys[i]? =some p.2:=by
 have:=List.getElem?_zip_eq_some.1 h
 exact this
theorem eqL_for {α:Type}(q:α→α→Bool){xs ys:List α}{f:Nat→Unit→Option (Unit⊕Bool)}(h: ∀i a b,xs[i]? =some a→ys[i]? =some b→f i ()=some (if q a b then .inl () else .inr false)):
  (cond (!((xs.length:Int)==(ys.length:Int))) (some false) (Option.bind ((Option.bind (forFrom f xs.length 0 ()) fun r=>r.elim (fun _=>some (.inl ())) (fun t=>some (.inr t))):Option (Unit⊕Bool)) fun o=>o.elim (fun _=>some true) fun t=>some t))=some (eqL q xs ys):=by
 by_cases e:(xs.length:Int)=ys.length
 ·have hz:(xs.zip ys).length=xs.length:=by rw [List.length_zip];omega
  have:=all_from (p:=fun p:α×α=>q p.1 p.2) (xs:=xs.zip ys) (f:=f) (fun i p hp=>h i p.1 p.2 (zip_at hp).1 (zip_at hp).2)
  have:=this xs.length 0 (by omega)
  rw [List.drop_zero] at this
  rw [this,beq_iff_eq.2 e]
  unfold eqL
  rw [decide_eq_true e,Bool.true_and]
  cases (xs.zip ys).all fun p=>q p.1 p.2<;>rfl
 ·rw [beq_eq_false_iff_ne.2 e]
  unfold eqL
  rw [decide_eq_false e];rfl
theorem eqL_while {α:Type}(q:α→α→Bool){xs ys:List α}{f:Int→Option (Int⊕(Unit⊕Bool))}(F:Nat)(hF:xs.length<F)(h: ∀(i:Nat) a b,i<xs.length→xs[i]? =some a→ys[i]? =some b→f (i:Int)=some (if q a b then .inl ((i+1:Nat):Int) else .inr (.inr false)))(h0:f (xs.length:Int)=some (.inr (.inl ()))):
  (cond (!((xs.length:Int)==(ys.length:Int))) (some false) (Option.bind ((Option.bind (whileM f F (0:Int)) fun r=>r.elim (fun _=>some (.inl ())) (fun t=>some (.inr t))):Option (Unit⊕Bool)) fun o=>o.elim (fun _=>some true) fun t=>some t))=some (eqL q xs ys):=by
 by_cases e:(xs.length:Int)=ys.length
 ·have hz:(xs.zip ys).length=xs.length:=by rw [List.length_zip];omega
  have:=all_while0 (fun p:α×α=>q p.1 p.2) (xs:=xs.zip ys) (f:=f) F (by omega) (fun i p hp=>h i p.1 p.2 (by have:=(List.getElem?_eq_some_iff.1 hp).1;omega) (zip_at hp).1 (zip_at hp).2) (by rw [hz];exact h0)
  rw [this,beq_iff_eq.2 e]
  unfold eqL
  rw [decide_eq_true e,Bool.true_and]
  cases (xs.zip ys).all fun p=>q p.1 p.2<;>rfl
 ·rw [beq_eq_false_iff_ne.2 e]
  unfold eqL
  rw [decide_eq_false e];rfl
def eqI (a b:Int):Bool:=a==b
def eqP (a b:GPost):Bool:=a.Doc==b.Doc&&eqL eqI a.At b.At
def eqE (a b:GEntry):Bool:=a.Field==b.Field&&(a.Term==b.Term&&eqL eqP a.Posts b.Posts)
theorem eqI_iff (a b:Int):eqI a b=true↔a=b:=by simp [eqI]
theorem eqP_iff (a b:GPost):eqP a b=true↔a=b:=by
 unfold eqP
 rw [Bool.and_eq_true,eqL_iff eqI_iff]
 cases a;cases b;simp
theorem eqE_iff (a b:GEntry):eqE a b=true↔a=b:=by
 unfold eqE
 rw [Bool.and_eq_true,Bool.and_eq_true,eqL_iff eqP_iff]
 cases a;cases b;simp
theorem impl_ints (F:Nat)(a b:List Int):M.slices_Equal_int F a b=some (eqL eqI a b):=by
 unfold M.slices_Equal_int
 refine eqL_for eqI fun i x y hx hy=>?_
 rw [getI_nat',hx,Option.bind_some,getI_nat',hy,Option.bind_some,if_bif]
 unfold eqI
 cases x==y<;>rfl
theorem impl_post (F:Nat)(a b:GPost):M.impl_samePost F a b=some (eqP a b):=by
 unfold M.impl_samePost eqP
 rw [impl_ints]
 cases a.Doc==b.Doc<;>rfl
theorem impl_posts (F:Nat)(a b:List GPost):M.slices_EqualFunc_Post__impl_samePost F a b=some (eqL eqP a b):=by
 unfold M.slices_EqualFunc_Post__impl_samePost
 refine eqL_for eqP fun i x y hx hy=>?_
 rw [getI_nat',hx,Option.bind_some,getI_nat',hy,Option.bind_some,impl_post,Option.bind_some,if_bif]
 cases eqP x y<;>rfl
theorem impl_entry (F:Nat)(a b:GEntry):M.impl_sameEntry F a b=some (eqE a b):=by
 unfold M.impl_sameEntry eqE
 rw [impl_posts]
 cases a.Field==b.Field
 ·rfl
 ·cases a.Term==b.Term<;>rfl
theorem impl_entries (F:Nat)(a b:List GEntry):M.slices_EqualFunc_Entry__impl_sameEntry F a b=some (eqL eqE a b):=by
 unfold M.slices_EqualFunc_Entry__impl_sameEntry
 refine eqL_for eqE fun i x y hx hy=>?_
 rw [getI_nat',hx,Option.bind_some,getI_nat',hy,Option.bind_some,impl_entry,Option.bind_some,if_bif]
 cases eqE x y<;>rfl
theorem spec_ints (F:Nat)(a b:List Int)(hF:a.length<F)(hl:a.length<9000000000000000000):M.spec_l7SameInts F a b=some (eqL eqI a b):=by
 unfold M.spec_l7SameInts
 refine eqL_while eqI F hF (fun i x y hi hx hy=>?_) ?_
 ·rw [decide_eq_true (by omega),cond_true,getI_nat',hx,Option.bind_some,getI_nat',hy,Option.bind_some,w64_succ' (by omega),if_bif]
  unfold eqI
  cases x==y<;>rfl
 ·rw [decide_eq_false (by omega)];rfl
theorem spec_sameE (F:Nat)(a b:GEntry)(h:a.Posts.length≤10000∧∀p∈a.Posts,p.At.length≤10000)(hF:10000<F):M.spec_l7SameEntry F a b=some (eqE a b):=by
 unfold M.spec_l7SameEntry eqE
 have key:=eqL_while eqP (xs:=a.Posts) (ys:=b.Posts) F (by omega) (f:=fun (s46:Int)=>(cond (decide (s46<(a.Posts.length:Int))) (Option.bind ((Option.bind (getI a.Posts s46) fun x67=>(Option.bind (getI b.Posts s46) fun x81=>(cond (!(x67.Doc==x81.Doc)) (some true) (Option.bind (getI a.Posts s46) fun x101=>(Option.bind (getI b.Posts s46) fun x115=>(Option.bind (M.spec_l7SameInts F x101.At x115.At) fun r129=>(some (!r129)))))))):Option Bool) fun o60=>(cond o60 (some (.inr (.inr false))) (some (.inl (w64 (s46+(1:Int))))))) (some (.inr (.inl ()))))) (fun i x y hi hx hy=>?_) ?_
 ·cases hf:a.Field==b.Field
  ·rfl
  cases ht:a.Term==b.Term
  ·rfl
  rw [Bool.true_and,Bool.true_and,←key]
  simp only [Bool.not_true,cond_false]
  rfl
 ·have hp:=h.2 x (List.mem_of_getElem? hx)
  rw [decide_eq_true (by omega),cond_true,getI_nat',hx,Option.bind_some,getI_nat',hy,Option.bind_some,w64_succ' (by omega),Option.bind_some,Option.bind_some,spec_ints F _ _ (by omega) (by omega),Option.bind_some,if_bif]
  unfold eqP
  cases x.Doc==y.Doc
  ·rfl
  ·cases eqL eqI x.At y.At<;>rfl
 ·rw [decide_eq_false (by omega)];rfl
theorem seg_fits {c:GConf}{docs:List GDoc}(h:docsS docs=true):Fits 7680 (segS c docs).Entries:=by
 have hall:=docs_all h
 have hput:putAll [] (occS c docs)=(keysOf (occS c docs)).map (mkE (occS c docs)):=puts_all _
 have hfin:Fits 7680 ((keysOf (occS c docs)).map (mkE (occS c docs))):=by
  have hl:=flat_le (g:=docOcc c) (m:=480) docs fun d hd=>docOcc_len (hall.2 d hd)
  have hl2:=hall.1
  have:=putAll_fits (B:=0) (occS c docs) (es:=[]) (by simp [Fits])
  rw [hput] at this
  exact this.le (by unfold occS;omega)
 have hm:=mem_segS (c:=c) (docs_good h)
 have n1:(segS c docs).Entries.Nodup:=(segS_sorted c docs).imp fun {a b} k e=>by subst e;rw [ltE_irr] at k;cases k
 have n2:((keysOf (occS c docs)).map (mkE (occS c docs))).Nodup:=(keys_apart (occS c docs)).imp fun {a b} k e=>by subst e;rw [ltE_irr] at k;rcases k with k | k<;>cases k
 have hp:=(List.perm_ext_iff_of_nodup n1 n2).2 hm
 exact⟨by rw [hp.length_eq];exact hfin.1,fun e he=>hfin.2 e ((hm e).1 he)⟩
def segOk (c:GConf)(s:GSeg):Bool:=confS c&&docsS s.Docs&&eqL eqE (segS c s.Docs).Entries s.Entries
theorem impl_ok (F:Nat)(c:GConf)(s:GSeg)(hd:s.Docs.length<9000000000000000000)(hc:c.Stops.length≤2000000)(hF:1000<F):M.impl_SegOk F c s=some (segOk c s):=by
 unfold M.impl_SegOk segOk
 rw [impl_conf F c hc (by omega),Option.bind_some,impl_segOf F c s.Docs hd hc hF]
 unfold segOf
 cases hcs:confS c
 ·rfl
 rw [Bool.not_true,cond_false,impl_docs F s.Docs hd,Option.bind_some,Option.bind_some,Bool.true_and]
 cases hds:docsS s.Docs
 ·rfl
 rw [Bool.not_true,cond_false,if_pos rfl,Option.bind_some,impl_entries];rfl
theorem spec_okB (F B:Nat)(c:GConf)(s:GSeg)(hdl:s.Docs.length≤B)(hdb: ∀d∈s.Docs,DocBig B d)(hc:ConfFit B c)(hB:B≤2000000)(hF:B+200000<F):M.spec_l7Ok F c s=some (segOk c s):=by
 unfold M.spec_l7Ok segOk
 rw [spec_conf F B c hc hB (by omega),Option.bind_some]
 cases hcs:confS c
 ·rfl
 rw [Bool.not_true,cond_false,spec_docsB F B s.Docs hdl hdb hB (by omega),Option.bind_some,Option.bind_some,Bool.true_and]
 cases hds:docsS s.Docs
 ·rfl
 have hfit:=seg_fits (c:=c) hds
 rw [Bool.not_true,cond_false,spec_seg F c s.Docs hcs (docs_fit hds) (by omega),Option.bind_some,Bool.true_and]
 have hl:=hfit.1
 refine eqL_while eqE F (by omega) (fun i x y hi hx hy=>?_) ?_
 ·have hp:=hfit.2 x (List.mem_of_getElem? hx)
  rw [decide_eq_true (by omega),cond_true,getI_nat',hx,Option.bind_some,getI_nat',hy,Option.bind_some,w64_succ' (by omega),spec_sameE F x y ⟨by omega,fun p hpp=>by have:=hp.2 p hpp;omega⟩ (by omega),Option.bind_some,if_bif]
  cases eqE x y<;>rfl
 ·rw [decide_eq_false (by omega)];rfl
theorem seg_is {c:GConf}{s:GSeg}(h:segOk c s=true):confS c=true∧docsS s.Docs=true∧s=segS c s.Docs:=by
 unfold segOk at h
 rw [Bool.and_eq_true,Bool.and_eq_true,eqL_iff eqE_iff] at h
 refine⟨h.1.1,h.1.2,?_⟩
 have:s.Entries=(segS c s.Docs).Entries:=h.2.symm
 cases s
 simp only at this
 subst this
 rfl
end Go.Fk
