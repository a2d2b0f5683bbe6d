/-
  An index's entries as rows of the call's own become one bag of blocks; sorting entries with their blocks. Of no program.
-/
import Derived.Test.YtpjefkdclnmlfaaGreatSegI
import Derived.Test.YtpjefkdclnmlfaaGreatOwnDP
namespace Go.Fk
open Go
set_option linter.unusedSectionVars false
variable [dr:Dr]
section
variable {w w0:World}{K K0:KMap}{M:List Nat}{L ls:List Item}{TE TP TI:TypeId}{gs:List Nat}{a:Option Addr}{n c:Nat}{lay:List ELay}{xs:List GEntry}
theorem SH.seeBag (h:SH w0 K0 M w K (ls++L))(hc: ∀it∈ls,∀b∈it.gs,∃cur T,w.heap[b]? =some (.cells cur T (0,0))):SH w0 K0 M w (seeK K w (ls.flatMap Item.gs)) (bag (ls.flatMap Item.gs)::L):=by
 have h1:=h.see
 refine⟨h1.os,h1.tape,h1.output,h1.holds,h1.le,h1.size,h1.old,h1.oldK,fun it hi=>?_,fun it hi b hb=>?_,?_,h1.drawn⟩
 ·rcases List.mem_cons.1 hi with rfl | hi
  ·refine⟨trivial,fun b hb=>?_⟩
   obtain⟨it,hit,hb⟩:=List.mem_flatMap.1 hb
   exact hc it hit b hb
  ·exact h1.items it hi
 ·rcases List.mem_cons.1 hi with rfl | hi
  ·obtain⟨it,hit,hb⟩:=List.mem_flatMap.1 hb
   exact h.lt it (List.mem_append_left _ hit) b hb
  ·exact h1.lt it hi b hb
 ·have:=h.nodup
  rw [List.flatMap_append] at this
  rw [List.flatMap_cons];exact this
theorem SH.bagPerm {B B':List Nat}(h:SH w0 K0 M w K (bag B::L))(hp:B'.Perm B):SH w0 K0 M w K (bag B'::L):=
 ⟨h.os,h.tape,h.output,h.holds,h.le,h.size,h.old,h.oldK,fun it hi=>by
  rcases List.mem_cons.1 hi with rfl | hi
  ·exact⟨trivial,fun b hb=>(h.items _ (.head _)).2 b (hp.mem_iff.1 hb)⟩
  ·exact h.items it (.tail _ hi),fun it hi b hb=>by
  rcases List.mem_cons.1 hi with rfl | hi
  ·exact h.lt _ (.head _) b (hp.mem_iff.1 hb)
  ·exact h.lt it (.tail _ hi) b hb,by
  have:=h.nodup
  rw [List.flatMap_cons] at this ⊢
  exact(hp.append_right _).nodup_iff.2 this,h.drawn⟩
theorem row_cells {a:Option Addr}{n c sz:Nat}{cs:List Value}{U:TypeId}(h:SH w0 K0 M w K L)(hm:rowI (.slice a n c) cs U sz∈L): ∀b∈(rowI (.slice a n c) cs U sz).gs,∃cur T,w.heap[b]? =some (.cells cur T (0,0)):=fun b hb=>by
 rcases h.rowI_cases hm with ⟨rfl,rfl,rfl,rfl⟩ | ⟨g,cur,rfl,h1,h2,h3,h4,h5,h6,h7⟩
 ·simp [rowI,one,Value.ownBlock] at hb
 ·have:b=g:=by simpa [rowI,one,Value.ownBlock] using hb
  subst this
  exact⟨cur,U,h4⟩
theorem see_rowO {α:Type}{o:Own α}{a:Option Addr}{n c:Nat}{cs:List Value}{U:TypeId}{ps:List (α×List Nat)}(h:SH w0 K0 M w K L)(hm:rowI (.slice a n c) cs U o.ty.size∈L)(hgs: ∀b∈(rowI (.slice a n c) cs U o.ty.size).gs,b∈gs)(hpos:0<o.ty.size)
  (hr:RowAt true o.pair (seeK K w gs) cs ps):RowO o (seeK K w gs) ((rowI (.slice a n c) cs U o.ty.size).gs++ps.flatMap Prod.snd) (.slice a n c) (ps.map Prod.fst):=by
 have hcl:cs.length=ps.length*o.ty.size:=hr.1.2 rfl
 rcases h.rowI_cases hm with ⟨rfl,rfl,rfl,rfl⟩ | ⟨g,cur,rfl,h1,h2,h3,h4,h5,h6,h7⟩
 ·have:ps=[]:=by
   cases ps with
   | nil=>rfl
   | cons x r=>simp [Nat.add_mul] at hcl;omega
  subst this
  exact .inl ⟨rfl,rfl,rfl⟩
 ·have hn:n=ps.length:=by
   rw [h3] at hcl
   exact Nat.eq_of_mul_eq_mul_right hpos hcl
  subst hn
  refine .inr ⟨g,c,ps,by rw [List.length_map],by rw [List.length_map];exact h1,h2,rfl,rfl,fun i p hp=>?_⟩
  obtain⟨u,hu,hk⟩:=hr.2.2 i p hp
  refine⟨u,hu,fun j d e=>?_⟩
  rw [see_in (hgs g (by simp [rowI,one,Value.ownBlock]))]
  exact h.row_cell hm (hk j d e)
theorem flat_nil {α:Type}: ∀zs:List α,(zs.map fun z=>(z,([]:List Nat))).flatMap Prod.snd=[]
 | []=>rfl
 | z::r=>by rw [List.map_cons,List.flatMap_cons,flat_nil r];rfl
theorem fst_map {α:Type}(f:α→List Nat): ∀zs:List α,(zs.map fun z=>(z,f z)).map Prod.fst=zs
 | []=>rfl
 | z::r=>by rw [List.map_cons,List.map_cons,fst_map f r]
theorem own_post {p:PLay}(h:SH w0 K0 M w K L)(hm:p.item TI∈L)(hg: ∀b∈(p.item TI).gs,b∈gs)(ho:p.ok):oPost.own (seeK K w gs) (p.item TI).gs (.agg #[.int .i64 p.doc,.slice p.a p.n p.c]) p.x:=by
 refine⟨_,rfl,ho.1,?_⟩
 have hr:RowAt true oInt.pair (seeK K w gs) (p.at_.map intC) (p.at_.map fun z=>(z,([]:List Nat))):=by
  have:=RowAt.flatMap (K:=seeK K w gs) (t:=oInt.pair) (cells:=fun z=>[intC z]) (f:=fun z=>(z,([]:List Nat))) (ps:=p.at_) fun z hz=>⟨intC z,⟨⟨rfl,ho.2 z hz⟩,rfl⟩,rfl⟩
  rwa [intC_flat] at this
 have h1:=see_rowO (o:=oInt) h hm hg (show 0<1 from Nat.succ_pos 0) hr
 rw [flat_nil,List.append_nil,fst_map] at h1
 exact h1
theorem own_entry {e:ELay}(h:SH w0 K0 M w K L)(hm: ∀it∈e.items TP TI,it∈L)(hg: ∀it∈e.items TP TI,∀b∈it.gs,b∈gs)(ho:e.ok):oEntry.own (seeK K w gs) ((e.items TP TI).flatMap Item.gs) (.agg #[sv e.field,sv e.term,.slice e.a e.n e.c]) e.x:=by
 refine⟨_,rfl,ho.1,ho.2.1,?_⟩
 have hp: ∀p∈e.posts,p.item TI∈e.items TP TI:=fun p hp=>List.mem_cons_of_mem _ (List.mem_map.2 ⟨p,hp,rfl⟩)
 have hr:RowAt true oPost.pair (seeK K w gs) (e.posts.flatMap PLay.cells) (e.posts.map fun p=>(p.x,(p.item TI).gs)):=
  RowAt.flatMap (K:=seeK K w gs) (t:=oPost.pair) (cells:=PLay.cells) (f:=fun p=>(p.x,(p.item TI).gs)) (ps:=e.posts) fun p hpm=>⟨.agg #[.int .i64 p.doc,.slice p.a p.n p.c],own_post (TI:=TI) h (hm _ (hp p hpm)) (hg _ (hp p hpm)) (ho.2.2 p hpm),rfl⟩
 have h1:=see_rowO (o:=oPost) h (hm _ (List.mem_cons_self ..)) (hg _ (List.mem_cons_self ..)) (show 0<2 from Nat.succ_pos 1) hr
 have e1:(e.posts.map fun p=>(p.x,(p.item TI).gs)).flatMap Prod.snd=(e.posts.map (PLay.item TI)).flatMap Item.gs:=by
  generalize e.posts=qs
  induction qs with
  | nil=>rfl
  | cons q r ih=>rw [List.map_cons,List.map_cons,List.flatMap_cons,List.flatMap_cons,ih]
 have e2:(e.posts.map fun p=>(p.x,(p.item TI).gs)).map Prod.fst=e.posts.map PLay.x:=by rw [List.map_map];rfl
 rw [e1,e2] at h1
 exact h1
theorem seg_own (h:SH w0 K0 M w K (pack (segItems TE TP TI a n c lay)::L))(hl:LayOk lay xs):
  ∃K' cs ps,KLe K K'∧RowAt true oEntry.pair K' cs ps∧ps.map Prod.fst=xs∧n=ps.length∧SH w0 K0 M w K' (rowI (.slice a n c) cs TE 3::bag (ps.flatMap Prod.snd)::L):=by
 have h1:=h.unpack
 have h2:SH w0 K0 M w K (lay.flatMap (ELay.items TP TI)++(segTop TE a n c lay::L)):=h1.perm (List.perm_middle (l₁:=lay.flatMap (ELay.items TP TI)))
 obtain⟨ho,rfl⟩:=hl
 have hm: ∀e∈lay,∀it∈e.items TP TI,it∈lay.flatMap (ELay.items TP TI):=fun e he it hi=>List.mem_flatMap.2 ⟨e,he,hi⟩
 have hr:RowAt true oEntry.pair (seeK K w ((lay.flatMap (ELay.items TP TI)).flatMap Item.gs)) (lay.flatMap ELay.cells) (lay.map fun e=>(e.x,(e.items TP TI).flatMap Item.gs)):=
  RowAt.flatMap (t:=oEntry.pair) (cells:=ELay.cells) (f:=fun e=>(e.x,(e.items TP TI).flatMap Item.gs)) (ps:=lay) fun e he=>⟨.agg #[sv e.field,sv e.term,.slice e.a e.n e.c],own_entry (TP:=TP) (TI:=TI) h2 (fun it hi=>List.mem_append_left _ (hm e he it hi)) (fun it hi b hb=>List.mem_flatMap.2 ⟨it,hm e he it hi,hb⟩) (ho e he),rfl⟩
 have e1:(lay.map fun e=>(e.x,(e.items TP TI).flatMap Item.gs)).flatMap Prod.snd=(lay.flatMap (ELay.items TP TI)).flatMap Item.gs:=by
  clear hr hm h1 h2 h ho
  induction lay with
  | nil=>rfl
  | cons q r ih=>rw [List.map_cons,List.flatMap_cons,List.flatMap_cons,List.flatMap_append,ih]
 refine⟨_,_,_,see_le h.holds,hr,by rw [List.map_map];rfl,?_,?_⟩
 ·have hcl:(lay.flatMap ELay.cells).length=(lay.map fun e=>(e.x,(e.items TP TI).flatMap Item.gs)).length*3:=hr.1.2 rfl
  rcases h2.rowI_cases (U:=TE) (sz:=3) (List.mem_append_right _ (List.mem_cons_self ..)) with ⟨_,h3,_,h4⟩ | ⟨g,cur,_,h3,h4,h5,_⟩
  ·rw [h4] at hcl;simp at hcl;simp;omega
  ·rw [h5] at hcl;omega
 ·have h3:=h2.seeBag fun it hi b hb=>by
   obtain⟨e,he,hi⟩:=List.mem_flatMap.1 hi
   have hm':=List.mem_append_left (segTop TE a n c lay::L) (hm e he it hi)
   rcases List.mem_cons.1 hi with rfl | hi
   ·exact row_cells h2 hm' b hb
   ·obtain⟨p,_,rfl⟩:=List.mem_map.1 hi
    exact row_cells h2 hm' b hb
  rw [e1]
  exact h3.perm (List.Perm.swap _ _ _)
end
theorem sortO_pairs {β γ:Type}{c:β→β→Option Int}{ps:List (β×γ)}{ys:List β}(h:sortO c (ps.map Prod.fst)=some ys): ∃qs,sortO (fun a b=>c a.1 b.1) ps=some qs∧qs.map Prod.fst=ys∧qs.Perm ps:=by
 unfold sortO at h
 split at h
 case isFalse=>cases h
 rename_i hok
 simp only [sortOk,Bool.and_eq_true,decide_eq_true_iff,List.all_eq_true] at hok
 obtain⟨⟨⟨⟨⟨k1,k2⟩,k3⟩,k4⟩,k5⟩,k6⟩:=hok
 have hf: ∀x∈ps,x.1∈ps.map Prod.fst:=fun x hx=>List.mem_map.2 ⟨x,hx,rfl⟩
 have hok':sortOk (fun a b:β×γ=>c a.1 b.1) ps=true:=by
  simp only [sortOk,Bool.and_eq_true,decide_eq_true_iff,List.all_eq_true]
  exact⟨⟨⟨⟨⟨by simpa using k1,fun x hx y hy=>k2 _ (hf x hx) _ (hf y hy)⟩,fun x hx=>k3 _ (hf x hx)⟩,fun x hx y hy z hz=>k4 _ (hf x hx) _ (hf y hy) _ (hf z hz)⟩,fun x hx y hy z hz=>k5 _ (hf x hx) _ (hf y hy) _ (hf z hz)⟩,List.pairwise_map.1 k6⟩
 refine⟨_,by unfold sortO;rw [if_pos hok'],?_,List.mergeSort_perm ..⟩
 cases h
 exact List.map_mergeSort (f:=Prod.fst) (s:=fun x y=> !ltO c y x) (fun a _ b _=>rfl)
theorem omark2_call {α β:Type}{o1:Own α}{o2:Own β}{P:Program}{fn:Nat}{w w0:World}{K K0:KMap}{L:List Item}{f1 f2:List Nat}{v v1 v2:Value}{ys:List α}{zs:List β}{k r q:Int}(h0:Holds K0 w0)(hS:SH w0 K0 [] w K (bag (f1++f2)::L))
  (hx:SH w (K.but (f1++f2)) (List.flatMap Item.gs [hp (f1++f2) K]) w (K.but (f1++f2)) [hp (f1++f2) K]→Calls P fn #[v,.int .i64 k] w fun e w'=>∃(K' H':KMap),e= .returned (.int .i64 r)∧SH w (K.but (f1++f2)) (List.flatMap Item.gs [hp (f1++f2) K]) w' K' [hp (f1++f2) H']∧rng64 r∧RowO o1 H' f1 v1 ys∧RowO o2 H' f2 v2 zs∧r=q):
  Calls P fn #[v,.int .i64 k] w fun e w'=>∃(K':KMap),e= .returned (.int .i64 r)∧SH w0 K0 [] w' K' (bag (f1++f2)::L)∧RowO o1 K' f1 v1 ys∧RowO o2 K' f2 v2 zs∧KLe (K.but (f1++f2)) K'∧rng64 r∧r=q:=by
 have h1:=hS.toHp h0
 refine(hx (SH.enter (Lin:=[hp (f1++f2) K]) h1)).mono fun e w' ⟨K2,H',he,h2,hr,ho1,ho2,hq⟩=>?_
 have h3:=SH.call (Lin:=[hp (f1++f2) K]) h1 h2
 obtain⟨h4,h5⟩:=SH.ofHp h3
 exact⟨_,he,h5,ho1.same fun b hb=>wth_in (List.mem_append_left _ hb),ho2.same fun b hb=>wth_in (List.mem_append_right _ hb),h2.le.trans h4,hr,hq⟩
end Go.Fk
