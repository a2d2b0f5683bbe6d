import Derived.Test.YtpdfkjjmcnhakaaGreatDoorLawDocsT
import Derived.Test.YtpdfkjjmcnhakaaGreatDoorLawSegKL
import Derived.Test.YtpdfkjjmcnhakaaGreatDoorLawFind
import Derived.Test.YtpdfkjjmcnhakaaGreatDoorLawGather
/-
  Indexes as plain data: what is alive, in order; when an index is sound. Of no program.
-/
set_option linter.unusedVariables false
namespace Go.Fk
open Go
def upIn (n:Int):Bool:=decide (0≤n)&&decide (n≤999999999)
def upIS (xs:List Int):Bool:=pairS upIn (fun a b=>decide (a<b)) xs&&decide ((xs.length:Int)≤60)
def hasDoc (s:GSeg)(id:Int):Bool:=s.Docs.any fun d=>d.Id==id
def deadIn (l:GLive)(d:GDoc):Bool:=l.Dead.any fun x=>d.Id==x
def aliveS (l:GLive):List GDoc:=l.Seg.Docs.filter fun d=> !deadIn l d
def liveS (c:GConf)(l:GLive):Bool:=(segOk c l.Seg&&upIS l.Dead)&&(l.Dead.all (hasDoc l.Seg)&&decide (0<(aliveS l).length))
def allS (segs:List GLive):List GDoc:=segs.flatMap aliveS
def sortD (ds:List GDoc):List GDoc:=ds.mergeSort byId
def indexS (x:GIndex):Bool:=(confS x.Conf&&decide ((x.Segs.length:Int)≤5))&&(x.Segs.all (liveS x.Conf)&&docsS (sortD (allS x.Segs)))
theorem ups_pair {xs:List Int}(h:pairS upIn (fun a b=>decide (a<b)) xs=true):xs.Pairwise fun a b=>a<b:=by
 have h2:=(pairS_ok h).2
 refine List.pairwise_iff_getElem.2 fun i j hi hj hij=>?_
 have gen: ∀k i,(hk:i+k+1<xs.length)→xs[i]<xs[i+k+1]:=by
  intro k
  induction k with
  | zero=>intro i hk;exact of_decide_eq_true (h2 i hk)
  | succ k ih=>
   intro i hk
   have a1:=ih i (by omega)
   have a2:=of_decide_eq_true (h2 (i+k+1) (by omega))
   have e:i+(k+1)+1=i+k+1+1:=by omega
   simp only [e]
   omega
 obtain⟨k,rfl⟩: ∃k,j=i+k+1:=⟨j-i-1,by omega⟩
 exact gen k i hj
theorem filter_both {α:Type}(p:α→Bool): ∀xs:List α,(xs.filter p).length+(xs.filter fun x=> !p x).length=xs.length
 | []=>rfl
 | x::r=>by
  have:=filter_both p r
  rw [List.filter_cons,List.filter_cons]
  cases p x<;>simp <;>omega
theorem split_len {A D:List Int}(hA:A.Nodup)(hD:D.Nodup)(hs: ∀d∈D,d∈A):(A.filter fun a=> !(D.any fun x=>a==x)).length+D.length=A.length:=by
 have hp:(A.filter fun a=>D.any fun x=>a==x).Perm D:=by
  refine(List.perm_ext_iff_of_nodup (hA.filter _) hD).2 fun a=>?_
  rw [List.mem_filter,List.any_eq_true]
  constructor
  ·rintro⟨_,x,hx,e⟩
   rw [beq_iff_eq] at e
   rw [e];exact hx
  ·intro ha
   exact⟨hs a ha,a,ha,by simp⟩
 have h1:=filter_both (fun a=>D.any fun x=>a==x) A
 have h2:=hp.length_eq
 omega
theorem ids_nodup {ds:List GDoc}(h:docsS ds=true):(ds.map (·.Id)).Nodup:=by
 refine List.pairwise_map.2 ((docs_ids h).2.2.imp fun h e=>?_)
 omega
theorem alive_count {l:GLive}(hd:docsS l.Seg.Docs=true)(hu:upIS l.Dead=true)(ha:l.Dead.all (hasDoc l.Seg)=true):(aliveS l).length+l.Dead.length=l.Seg.Docs.length:=by
 unfold upIS at hu
 rw [Bool.and_eq_true] at hu
 have hn:l.Dead.Nodup:=(ups_pair hu.1).imp fun h e=>by omega
 have:=split_len (ids_nodup hd) hn fun d hm=>by
  have:=List.all_eq_true.1 ha d hm
  unfold hasDoc at this
  rw [List.any_eq_true] at this
  obtain⟨x,hx,e⟩:=this
  rw [beq_iff_eq] at e
  exact List.mem_map.2 ⟨x,hx,e⟩
 rw [List.length_map,List.filter_map,List.length_map] at this
 exact this
def insD (d:GDoc):List GDoc→List GDoc
 | []=>[d]
 | x::r=>if x.Id<d.Id then x::insD d r else d::x::r
theorem insD_perm (d:GDoc): ∀xs:List GDoc,(insD d xs).Perm (d::xs)
 | []=>.refl _
 | x::r=>by
  unfold insD
  split
  ·exact((insD_perm d r).cons x).trans (List.Perm.swap _ _ _)
  ·exact .refl _
theorem insD_up (d:GDoc): ∀{xs:List GDoc},(xs.Pairwise fun a b=>a.Id≤b.Id)→(insD d xs).Pairwise fun a b=>a.Id≤b.Id
 | [],_=>by simp [insD]
 | x::r,h=>by
  have hc:=List.pairwise_cons.1 h
  unfold insD
  split
  ·rename_i hlt
   refine List.pairwise_cons.2 ⟨fun b hb=>?_,insD_up d hc.2⟩
   rcases List.mem_cons.1 ((insD_perm d r).mem_iff.1 hb) with rfl | hb
   ·omega
   ·exact hc.1 b hb
  ·rename_i hge
   refine List.pairwise_cons.2 ⟨fun b hb=>?_,h⟩
   rcases List.mem_cons.1 hb with rfl | hb
   ·omega
   ·have:=hc.1 b hb;omega
def insAll (ds:List GDoc):List GDoc:=ds.foldl (fun a d=>insD d a) []
theorem insAll_gen: ∀(ds acc:List GDoc),(acc.Pairwise fun a b=>a.Id≤b.Id)→(ds.foldl (fun a d=>insD d a) acc).Perm (acc++ds)∧(ds.foldl (fun a d=>insD d a) acc).Pairwise fun a b=>a.Id≤b.Id
 | [],acc,h=>by simpa using h
 | d::r,acc,h=>by
  obtain⟨h1,h2⟩:=insAll_gen r (insD d acc) (insD_up d h)
  refine⟨h1.trans ?_,h2⟩
  exact((insD_perm d acc).append_right r).trans (List.perm_middle (l₁:=acc) (l₂:=r) (a:=d)).symm
theorem insAll_perm (ds:List GDoc):(insAll ds).Perm ds:=(insAll_gen ds [] .nil).1
theorem insAll_up (ds:List GDoc):(insAll ds).Pairwise fun a b=>a.Id≤b.Id:=(insAll_gen ds [] .nil).2
theorem insAll_len (ds:List GDoc):(insAll ds).length=ds.length:=(insAll_perm ds).length_eq
theorem sortD_perm (ds:List GDoc):(sortD ds).Perm ds:=List.mergeSort_perm ..
theorem docs_ins (ds:List GDoc):docsS (insAll ds)=docsS (sortD ds):=docsS_any ((insAll_perm ds).trans (sortD_perm ds).symm) (insAll_up ds) (byId_sorted ds)
theorem alive_sub (l:GLive): ∀d∈aliveS l,d∈l.Seg.Docs:=fun d hd=>(List.mem_filter.1 hd).1
theorem alive_le (l:GLive):(aliveS l).length≤l.Seg.Docs.length:=List.length_filter_le ..
theorem all_le: ∀{segs:List GLive},(∀l∈segs,l.Seg.Docs.length≤16)→(allS segs).length≤segs.length*16:=fun {segs} h=>flat_le segs fun l hl=>Nat.le_trans (alive_le l) (h l hl)
end Go.Fk
set_option linter.unusedVariables false
namespace Go.Fk
open Go
theorem contains_id (F:Nat)(xs:List Int)(n:Int):M.slices_Contains_int F xs n=some (xs.any fun x=>n==x):=by
 unfold M.slices_Contains_int M.slices_Index_int
 rw [idx_from (fun x=>n==x) (fun i x hx=>by
  rw [getI_nat',hx,Option.bind_some];cases n==x<;>rfl),←idx_ge]
 cases xs.findIdx? (fun x=>n==x)<;>rfl
theorem find_anyI (xs:List Int)(n:Int):(xs.find? fun x=>x==n).isSome=xs.any fun x=>n==x:=by
 induction xs with
 | nil=>rfl
 | cons x r ih=>
  rw [List.find?_cons,List.any_cons,show (n==x)=(x==n) from Bool.eq_iff_iff.2 ⟨fun h=>beq_iff_eq.2 (eq_of_beq h).symm,fun h=>beq_iff_eq.2 (eq_of_beq h).symm⟩]
  cases x==n with
  | true=>rfl
  | false=>rw [Bool.false_or,←ih]
theorem has_id (F:Nat)(xs:List Int)(n:Int)(hl:xs.length<1000000)(hF:xs.length<F):M.spec_l8Has F xs n=some (xs.any fun x=>n==x):=by
 unfold M.spec_l8Has
 rw [find_while (xs:=xs) (fun x=>x==n) (fun _=>(.inr true:Unit⊕Bool)) (e:=.inl ()) F hF (fun i x hx=>?_) ?_]
 ·rw [←find_anyI]
  cases xs.find? (fun x=>x==n)<;>rfl
 ·rw [decide_eq_false (by omega)];rfl
 ·have hi:=(List.getElem?_eq_some_iff.1 hx).1
  rw [decide_eq_true (by omega),cond_true,getI_nat',hx,Option.bind_some,w64_succ' (by omega)]
  cases x==n<;>rfl
theorem spec_docI (F:Nat)(s:GSeg)(id:Int)(hl:s.Docs.length≤1048576)(hF:s.Docs.length<F):M.spec_l12Doc F s id=some ((s.Docs.find? fun d=>d.Id==id).getD ⟨0,[],[]⟩):=by
 unfold M.spec_l12Doc
 have key:=fun f step fin=>whileM_run (σ:=Int×GDoc) (τ:=GDoc⊕GDoc) (f:=f) (Post:=fun t=>t=(s.Docs.find? fun d=>d.Id==id).elim (.inl ⟨0,[],[]⟩) .inr) (fun i st=>st=((i:Int),⟨0,[],[]⟩)∧∀j,(h:j<s.Docs.length)→j<i→(s.Docs[j].Id==id)=false) s.Docs.length step fin s.Docs.length 0 ((0:Int),⟨0,[],[]⟩) F (by omega) hF ⟨rfl,fun j _ h=>by omega⟩
 generalize hf:(fun (s35:Int×GDoc)=>_:Int×GDoc→Option ((Int×GDoc)⊕(GDoc⊕GDoc)))=f
 obtain⟨t,ht,hp⟩:=key f (fun i st hi hI=>by
  obtain⟨rfl,hI⟩:=hI
  subst hf
  dsimp only
  rw [decide_eq_true (by omega),cond_true,getI_at hi,Option.bind_some]
  cases he:s.Docs[i].Id==id
  ·left
   refine⟨_,rfl,by rw [w64_succ' (by omega)],fun j hj hji=>?_⟩
   rcases Nat.lt_or_ge j i with h | h
   ·exact hI j hj h
   ·obtain rfl:j=i:=by omega
    exact he
  ·right
   refine⟨_,rfl,?_⟩
   have:s.Docs.find? (fun d=>d.Id==id)=some s.Docs[i]:=List.find?_eq_some_iff_getElem.2 ⟨he,i,hi,rfl,fun j hj=>by rw [hI j (by omega) hj];rfl⟩
   rw [this];rfl) (fun st hI=>by
  obtain⟨rfl,hI⟩:=hI
  subst hf
  dsimp only
  rw [decide_eq_false (by omega),cond_false]
  refine⟨_,rfl,?_⟩
  have:s.Docs.find? (fun d=>d.Id==id)=none:=List.find?_eq_none.2 fun d hd=>by
   obtain⟨j,hj,rfl⟩:=List.mem_iff_getElem.1 hd
   rw [hI j hj hj];simp
  rw [this];rfl)
 rw [ht,hp]
 cases s.Docs.find? fun d=>d.Id==id<;>rfl
theorem impl_segdocI (F:Nat)(s:GSeg)(id:Int):M.impl_Seg_doc F s id=some ((s.Docs.find? fun d=>d.Id==id).elim (GDoc.mk 0 [] [],false) fun d=>(d,true)):=by
 unfold M.impl_Seg_doc
 rw [find_from (xs:=s.Docs) (fun d=>d.Id==id) (fun d=>(d,true)) (fun i x hx=>?_)]
 ·cases s.Docs.find? fun d=>d.Id==id<;>rfl
 ·rw [getI_nat',hx,Option.bind_some,if_bif]
  cases x.Id==id<;>rfl
theorem impl_upI (F:Nat)(xs:List Int)(hl:xs.length<9000000000000000000):M.impl_UpOk F xs=some (upIS xs):=by
 unfold M.impl_UpOk upIS
 rw [pair_from (ok:=upIn) (lt:=fun a b=>decide (a<b)) (xs:=xs) (fun i x hx=>?_)]
 ·cases pairS upIn (fun a b=>decide (a<b)) xs<;>rfl
 ·have hi:=(List.getElem?_eq_some_iff.1 hx).1
  rw [getI_nat',hx,Option.bind_some,withinS,Option.bind_some]
  unfold upIn
  cases (decide (0≤x)&&decide (x≤999999999)) with
  | false=>rfl
  | true=>
   by_cases h0:i=0
   ·subst h0;rfl
   ·rw [Bool.not_true,cond_false,decide_eq_true (show (0:Int)<(i:Int) by omega),cond_true,w64_pred (by omega) (by omega),getI_nat',List.getElem?_eq_getElem (show i-1<xs.length by omega),Option.bind_some,decide_eq_false h0]
    simp only [Option.elim_some,Bool.false_or,Option.bind_some,Bool.true_and]
    by_cases hlt:xs[i-1]<x
    ·rw [decide_eq_true hlt,decide_eq_false (show ¬x≤xs[i-1] by omega)];rfl
    ·rw [decide_eq_false hlt,decide_eq_true (show x≤xs[i-1] by omega)];rfl
theorem spec_upI (F:Nat)(xs:List Int)(hl:xs.length≤2000000)(hF:xs.length<F):M.spec_l3Up F xs=some (upIS xs):=by
 unfold M.spec_l3Up upIS
 rw [pair_while (ok:=upIn) (lt:=fun a b=>decide (a<b)) (xs:=xs) (fun i x hx=>?_) ?_ F hF]
 ·cases pairS upIn (fun a b=>decide (a<b)) xs<;>rfl
 ·rw [decide_eq_false (by omega)];rfl
 ·have hi:=(List.getElem?_eq_some_iff.1 hx).1
  rw [decide_eq_true (by omega),cond_true,getI_nat',hx,Option.bind_some,inS,Option.bind_some,w64_succ' (by omega)]
  unfold upIn
  cases (decide (0≤x)&&decide (x≤999999999)) with
  | false=>rfl
  | true=>
   by_cases h0:i=0
   ·subst h0;rfl
   ·rw [Bool.not_true,cond_false,decide_eq_true (show (0:Int)<(i:Int) by omega),cond_true,w64_pred (by omega) (by omega),getI_nat',List.getElem?_eq_getElem (show i-1<xs.length by omega),Option.bind_some,Option.bind_some,decide_eq_false h0]
    simp only [Option.elim_some,Bool.false_or,Option.bind_some,Bool.true_and]
    by_cases hlt:xs[i-1]<x
    ·rw [decide_eq_true hlt,decide_eq_false (show ¬x≤xs[i-1] by omega)];rfl
    ·rw [decide_eq_false hlt,decide_eq_true (show x≤xs[i-1] by omega)];rfl
theorem flat_filterI {α:Type}(p:α→Bool): ∀xs:List α,(xs.flatMap fun x=>if p x then [x] else [])=xs.filter p
 | []=>rfl
 | x::r=>by
  rw [List.flatMap_cons,List.filter_cons,flat_filterI p r]
  cases p x<;>rfl
theorem any_find {α:Type}(p:α→Bool): ∀xs:List α,xs.any p=(xs.find? p).isSome
 | []=>rfl
 | x::r=>by
  rw [List.any_cons,List.find?_cons,any_find p r]
  cases p x<;>rfl
theorem impl_alive (F:Nat)(l:GLive)(hd:l.Seg.Docs.length≤1048576):M.impl_Live_alive F l=some (aliveS l):=by
 unfold M.impl_Live_alive
 have hlen:=alive_le l
 have e:aliveS l=l.Seg.Docs.flatMap fun d=>if (fun d=> !deadIn l d) d then [d] else []:=(flat_filterI _ _).symm
 rw [fm_forE (xs:=l.Seg.Docs) (fun d=>if (fun d=> !deadIn l d) d then [d] else []) 1048576 (fun i x acc hx hB=>?_) [] (by rw [List.nil_append,←e];omega),List.nil_append,←e]
 ·rfl
 ·rw [getI_nat',hx,Option.bind_some,contains_id,Option.bind_some]
  show cond (!deadIn l x) _ _=_
  dsimp only at hB ⊢
  simp only [if_bif] at hB ⊢
  revert hB
  cases deadIn l x with
  | false=>
   intro hB
   simp only [Bool.not_false,cond_true] at hB ⊢
   rw [catLok (by rw [List.length_append] at hB;omega)];rfl
  | true=>intro _;simp
theorem impl_live (F:Nat)(c:GConf)(l:GLive)(hd:l.Seg.Docs.length≤1048576)(hu:l.Dead.length<9000000000000000000)(hc:c.Stops.length≤2000000)(hF:1000<F):M.impl_liveOk F c l=some (liveS c l):=by
 unfold M.impl_liveOk liveS
 rw [impl_ok F c l.Seg (by omega) hc hF,Option.bind_some]
 cases segOk c l.Seg with
 | false=>rfl
 | true=>
  rw [Bool.not_true,cond_false,impl_upI F _ hu,Option.bind_some,Option.bind_some,Bool.true_and]
  cases upIS l.Dead with
  | false=>rfl
  | true=>
   rw [Bool.not_true,cond_false,all_from (p:=hasDoc l.Seg) (xs:=l.Dead) (fun i x hx=>?_) l.Dead.length 0 (by omega),List.drop_zero]
   ·rw [Bool.true_and]
    cases l.Dead.all (hasDoc l.Seg) with
    | false=>rfl
    | true=>
     simp only [if_true,Option.bind_some,Sum.elim_inl]
     rw [impl_alive F l hd,Option.bind_some,Bool.true_and]
     congr 1
     exact decide_eq_decide.2 (by omega)
   ·rw [getI_nat',hx,Option.bind_some,show M.impl_Seg_doc__ofGLive0 F l x=M.impl_Seg_doc F l.Seg x from rfl,impl_segdocI,Option.bind_some]
    unfold hasDoc
    rw [any_find]
    cases l.Seg.Docs.find? fun d=>d.Id==x<;>rfl
theorem impl_all (F:Nat)(segs:List GLive)(hd: ∀l∈segs,l.Seg.Docs.length≤1000)(hs:segs.length≤1000):M.impl_allAlive F segs=some (allS segs):=by
 unfold M.impl_allAlive
 have hlen:(allS segs).length≤segs.length*1000:=flat_le segs fun l hl=>Nat.le_trans (alive_le l) (hd l hl)
 rw [fm_forE (xs:=segs) aliveS 1000000 (fun i x acc hx hB=>?_) [] (by rw [List.nil_append];unfold allS at hlen;omega),List.nil_append]
 ·rfl
 ·rw [getI_nat',hx,Option.bind_some,impl_alive F x (by have:=hd x (List.mem_of_getElem? hx);omega),Option.bind_some,catLok (by rw [List.length_append] at hB;omega)];rfl
theorem live_docs {c:GConf}{l:GLive}(h:liveS c l=true):docsS l.Seg.Docs=true∧l.Seg.Docs.length≤16:=by
 unfold liveS at h
 simp only [Bool.and_eq_true] at h
 have:=seg_is h.1.1
 exact⟨this.2.1,(docs_ids this.2.1).1⟩
theorem impl_indexOk (F:Nat)(x:GIndex)(hc:x.Conf.Stops.length≤2000000)(hd: ∀l∈x.Segs,l.Seg.Docs.length≤1048576∧l.Dead.length≤1048576)(hF:1000<F):M.impl_IndexOk F x=some (indexS x):=by
 unfold M.impl_IndexOk indexS
 rw [impl_conf F x.Conf hc (by omega),Option.bind_some]
 cases confS x.Conf with
 | false=>rfl
 | true=>
  rw [Bool.not_true,cond_false,Option.bind_some,dec_le 5 (x.Segs.length:Int),Bool.true_and]
  by_cases h5:(x.Segs.length:Int)≤5
  ·rw [decide_eq_true h5,Bool.not_true,cond_false,all_from (p:=liveS x.Conf) (xs:=x.Segs) (fun i l hl=>?_) x.Segs.length 0 (by omega),List.drop_zero,Bool.true_and]
   ·cases ha:x.Segs.all (liveS x.Conf) with
    | false=>rfl
    | true=>
     have hall:=List.all_eq_true.1 ha
     have h16: ∀l∈x.Segs,l.Seg.Docs.length≤16:=fun l hl=>(live_docs (hall l hl)).2
     have hlen:=all_le h16
     simp only [if_true,Option.bind_some,Sum.elim_inl]
     rw [impl_all F x.Segs (fun l hl=>by have:=h16 l hl;omega) (by omega),Option.bind_some,Bool.true_and]
     unfold docsT
     rw [impl_docs F _ (by rw [List.length_mergeSort];omega)];rfl
   ·have hm:=List.mem_of_getElem? hl
    have:=hd l hm
    rw [getI_nat',hl,Option.bind_some,impl_live F x.Conf l (by omega) (by omega) hc hF,Option.bind_some]
    cases liveS x.Conf l<;>rfl
  ·rw [decide_eq_false h5];rfl
def rankD (d:GDoc):List GDoc→Nat
 | []=>0
 | x::r=>if x.Id<d.Id then rankD d r+1 else 0
theorem rankD_le (d:GDoc): ∀xs:List GDoc,rankD d xs≤xs.length
 | []=>Nat.le_refl _
 | x::r=>by
  have:=rankD_le d r
  unfold rankD
  split<;>simp <;>omega
theorem insD_cut (d:GDoc): ∀xs:List GDoc,(xs.take (rankD d xs)++[d])++xs.drop (rankD d xs)=insD d xs
 | []=>rfl
 | x::r=>by
  unfold rankD insD
  split
  ·rw [List.take_succ_cons,List.drop_succ_cons,List.cons_append,List.cons_append,insD_cut d r]
  ·rfl
theorem insD_while {d:GDoc}{xs:List GDoc}{f:Int→Option (Int⊕Int)}(h1: ∀(i:Nat) x,xs[i]? =some x→f (i:Int)=some (if x.Id<d.Id then .inl ((i+1:Nat):Int) else .inr (i:Int)))(h0:f (xs.length:Int)=some (.inr (xs.length:Int))):
  ∀k i F,i+k=xs.length→k<F→whileM f F (i:Int)=some (((i+rankD d (xs.drop i)):Nat):Int)
 | 0,i,F,e,hF=>by
  obtain⟨F,rfl⟩: ∃G,F=G+1:=⟨F-1,by omega⟩
  rw [whileM,show i=xs.length by omega,h0,List.drop_of_length_le (Nat.le_refl _)];rfl
 | k+1,i,F,e,hF=>by
  obtain⟨F,rfl⟩: ∃G,F=G+1:=⟨F-1,by omega⟩
  have hi:i<xs.length:=by omega
  rw [whileM,h1 i xs[i] (List.getElem?_eq_getElem hi),List.drop_eq_getElem_cons hi,rankD,Option.bind_some]
  by_cases h:xs[i].Id<d.Id
  ·rw [if_pos h,if_pos h]
   show whileM f F _=_
   rw [insD_while h1 h0 k (i+1) F (by omega) (by omega)]
   congr 2;omega
  ·rw [if_neg h,if_neg h];rfl
theorem spec_put18 (F:Nat)(xs:List GDoc)(d:GDoc)(hl:xs.length≤1000000)(hd:d.Fields.length≤1000000∧d.Nums.length≤1000000)(hF:xs.length<F):M.spec_l18Put F xs d=some (insD d xs):=by
 unfold M.spec_l18Put
 have hw: ∀f,(∀(i:Nat) x,xs[i]? =some x→f (i:Int)=some (if x.Id<d.Id then .inl ((i+1:Nat):Int) else .inr (i:Int)))→f (xs.length:Int)=some (.inr (xs.length:Int))→whileM f F (0:Int)=some ((rankD d xs:Nat):Int):=fun f a b=>by
  have:=insD_while (f:=f) a b xs.length 0 F (by omega) (by omega)
  rwa [List.drop_zero,Nat.zero_add] at this
 rw [hw _ (fun i x hx=>?_) ?_]
 ·have hr:=rankD_le d xs
  have c1:subL xs 0 ((rankD d xs:Nat):Int)=some (xs.take (rankD d xs)):=by
   unfold subL
   rw [if_pos ⟨by omega,by omega,by omega⟩]
   simp
  have c2:subL xs ((rankD d xs:Nat):Int) (xs.length:Int)=some (xs.drop (rankD d xs)):=subL_tail hr
  have l1:(xs.take (rankD d xs)).length≤1000000:=by simp;omega
  have l2:(xs.drop (rankD d xs)).length≤1000000:=by simp;omega
  have l0:([]:List GDoc).length=0:=rfl
  rw [Option.bind_some,Option.bind_some,c1,Option.bind_some,catLok (by omega),List.nil_append,Option.bind_some,spec_clone F d hd.1 hd.2,Option.bind_some,catLok (by simp only [List.length_singleton];omega),Option.bind_some,c2,Option.bind_some,
   catLok (by simp only [List.length_append,List.length_singleton];omega),Option.bind_some,insD_cut]
 ·rw [decide_eq_false (by omega)];rfl
 ·have hi:=(List.getElem?_eq_some_iff.1 hx).1
  rw [decide_eq_true (by omega),cond_true,getI_nat',hx,Option.bind_some,Option.bind_some,w64_succ' (by omega)]
  by_cases h:x.Id<d.Id
  ·rw [decide_eq_true h,if_pos h];rfl
  ·rw [decide_eq_false h,if_neg h];rfl
theorem fold_ins: ∀(ds acc:List GDoc) (p:GDoc→Bool),ds.foldl (fun a d=>if p d then insD d a else a) acc=(ds.filter p).foldl (fun a d=>insD d a) acc
 | [],_,_=>rfl
 | d::r,acc,p=>by
  rw [List.foldl_cons,List.filter_cons,fold_ins r _ p]
  cases p d<;>rfl
theorem fold_all: ∀(segs:List GLive) (acc:List GDoc),segs.foldl (fun a l=>(aliveS l).foldl (fun a d=>insD d a) a) acc=(allS segs).foldl (fun a d=>insD d a) acc
 | [],_=>rfl
 | l::r,acc=>by
  unfold allS
  rw [List.foldl_cons,List.flatMap_cons,List.foldl_append,fold_all r];rfl
theorem insD_len (d:GDoc)(xs:List GDoc):(insD d xs).length=xs.length+1:=(insD_perm d xs).length_eq
theorem spec_dead (F:Nat)(l:GLive)(d:GDoc)(hl:l.Dead.length<1000000)(hF:l.Dead.length<F):M.spec_l18Dead F l d.Id=some (deadIn l d):=by
 unfold M.spec_l18Dead
 rw [has_id F _ _ hl hF];rfl
theorem spec_docs18 (F:Nat)(x:GIndex)(hs:x.Segs.length≤1000)(hd: ∀l∈x.Segs,l.Seg.Docs.length≤1000∧l.Dead.length≤1000∧∀d∈l.Seg.Docs,d.Fields.length≤1000000∧d.Nums.length≤1000000)(hF:2000000<F):M.spec_l18Docs F x=some (insAll (allS x.Segs)):=by
 unfold M.spec_l18Docs
 have key:=fold_while (xs:=x.Segs) (fun a l=>(aliveS l).foldl (fun a d=>insD d a) a) (fun i s=>s.length≤i*1000) (fun s=>s) (fun (s:List GDoc) (i:Int)=>(s,i)) [] rfl F (by omega) (by simp)
  (f:=fun (s34:(List GDoc)×Int)=>(cond (decide (s34.2<(x.Segs.length:Int))) (Option.bind ((Option.bind (whileM (σ:=(List GDoc)×Int) (τ:=(List GDoc)) (fun (s64:(List GDoc)×Int)=>(Option.bind (getI x.Segs s34.2) fun x80=>(cond (decide (s64.2<(x80.Seg.Docs.length:Int))) (Option.bind (getI x.Segs s34.2) fun x103=>(Option.bind (getI x103.Seg.Docs s64.2) fun x124=>(Option.bind (getI x.Segs s34.2) fun x148=>(Option.bind (M.spec_l18Dead F x148 x124.Id) fun r169=>(cond (!r169) (Option.bind (M.spec_l18Put F s64.1 x124) fun r182=>(some (.inl (r182,(w64 (s64.2+(1:Int))))))) (some (.inl (s64.1,(w64 (s64.2+(1:Int))))))))))) (some (.inr s64.1))))) F (s34.1,(0:Int))) fun r65=>(some r65)):Option (List GDoc)) fun o53=>(some (.inl (o53,(w64 (s34.2+(1:Int))))))) (some (.inr s34.1)))) (fun i l s hl hI=>?_) (fun s hI=>?_)
 ·have h1:=key.1
  rw [h1,fold_all];rfl
 ·have hi:=(List.getElem?_eq_some_iff.1 hl).1
  have hb:=hd l (List.mem_of_getElem? hl)
  have hg:getI x.Segs (i:Int)=some l:=by rw [getI_nat',hl]
  have inner:=fold_while (xs:=l.Seg.Docs) (fun a d=>if (fun d=> !deadIn l d) d then insD d a else a) (fun j s'=>s'.length≤s.length+j) (fun s=>s) (fun (s:List GDoc) (j:Int)=>(s,j)) s rfl F (by omega) (Nat.le_refl _)
   (f:=fun (s64:(List GDoc)×Int)=>(Option.bind (getI x.Segs (i:Int)) fun x80=>(cond (decide (s64.2<(x80.Seg.Docs.length:Int))) (Option.bind (getI x.Segs (i:Int)) fun x103=>(Option.bind (getI x103.Seg.Docs s64.2) fun x124=>(Option.bind (getI x.Segs (i:Int)) fun x148=>(Option.bind (M.spec_l18Dead F x148 x124.Id) fun r169=>(cond (!r169) (Option.bind (M.spec_l18Put F s64.1 x124) fun r182=>(some (.inl (r182,(w64 (s64.2+(1:Int))))))) (some (.inl (s64.1,(w64 (s64.2+(1:Int))))))))))) (some (.inr s64.1))))) (fun j d s' hx hJ=>?_) (fun s' hJ=>?_)
  ·have h1:=inner.1
   have h2:=inner.2
   rw [fold_ins] at h1 h2
   have h2':((aliveS l).foldl (fun a d=>insD d a) s).length≤s.length+l.Seg.Docs.length:=h2
   refine⟨?_,by rw [Nat.add_mul];omega⟩
   dsimp only
   rw [decide_eq_true (by omega),cond_true]
   rw [show (whileM (σ:=(List GDoc)×Int) (τ:=(List GDoc)) _ F (s,(0:Int)))=_ from h1,Option.bind_some,Option.bind_some,w64_succ' (by omega)]
   rfl
  ·have hj:=(List.getElem?_eq_some_iff.1 hx).1
   have hdm:=hb.2.2 d (List.mem_of_getElem? hx)
   have hgd:getI l.Seg.Docs (j:Int)=some d:=by rw [getI_nat',hx]
   have hsl:s.length≤1000000:=by
    have:=Nat.mul_le_mul_right 1000 (Nat.le_of_lt hi)
    omega
   dsimp only
   rw [hg,Option.bind_some,decide_eq_true (by omega),cond_true,Option.bind_some,hgd,Option.bind_some,Option.bind_some,spec_dead F l d (by omega) (by omega),Option.bind_some,w64_succ' (by omega)]
   simp only [if_bif]
   cases deadIn l d with
   | true=>exact⟨rfl,by simp only [Bool.not_true,cond_false];omega⟩
   | false=>
    simp only [Bool.not_false,cond_true]
    rw [spec_put18 F s' d (by omega) hdm (by omega),Option.bind_some,insD_len]
    exact⟨rfl,by omega⟩
  ·dsimp only
   rw [hg,Option.bind_some,decide_eq_false (by omega)];rfl
 ·dsimp only
  rw [decide_eq_false (by omega)];rfl
end Go.Fk
