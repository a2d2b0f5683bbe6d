/-
  An index's entries as rows of the call's own: the entries' row, each entry's row of posts, each post's row of places. Of no program.
-/
import Derived.Test.YtpdfkjjmcnhakaaGreatDoorTypes
import Derived.Test.YtpdfkjjmcnhakaaGreatDoorCoreP
namespace Go.Fk
open Go
set_option linter.unusedSectionVars false
variable [dr:Dr]
def tRaw (k:Nat):Ty (List Value) where
 size:=k
 agg:=true
 rel:=fun _ v x=>v= .agg x.toArray∧x.length=k∧∀c∈x,c.oneCell'=true
 mono:=fun _ _ _ h=>h
 shape:=by rintro K v x ⟨rfl,_,_⟩;exact .inl ⟨rfl,_,rfl⟩
 size_eq:=by rintro K v x ⟨rfl,h,_⟩;simpa [Value.cells] using h
 ones:=by rintro K v x ⟨rfl,_,h⟩;simpa [Value.cells] using h
theorem raw_lit {K:KMap}{cs:List Value}{k:Nat}{b o c:Nat}(h:SliceAt (tRaw k) K (some ⟨b,o,none⟩) 1 c [cs]):AtK K b o cs:=by
 obtain⟨_,h2,_,h4⟩:=h
 obtain⟨b',o',e,h5⟩:=h4 (by omega)
 injection e with e
 injection e with e1 e2 _
 subst e1 e2
 obtain⟨u,⟨rfl,_⟩,hk⟩:=h5 0 cs rfl
 rw [Nat.zero_mul,Nat.add_zero] at hk
 exact hk
theorem raw_addr {K:KMap}{cs:List Value}{k:Nat}{a:Option Addr}{c:Nat}(h:SliceAt (tRaw k) K a 1 c [cs]): ∃b o,a=some ⟨b,o,none⟩:=by
 obtain⟨_,h2,_,h4⟩:=h
 obtain⟨b,o,e,_⟩:=h4 (by omega)
 exact⟨b,o,e⟩
theorem int_lit {K:KMap}{z:Int}{b o c:Nat}(h:SliceAt tInt K (some ⟨b,o,none⟩) 1 c [z]):AtK K b o [.int .i64 z]:=by
 obtain⟨_,h2,_,h4⟩:=h
 obtain⟨b',o',e,h5⟩:=h4 (by omega)
 injection e with e
 injection e with e1 e2 _
 subst e1 e2
 obtain⟨u,⟨rfl,_⟩,hk⟩:=h5 0 z rfl
 rw [Nat.zero_mul,Nat.add_zero] at hk
 exact hk
theorem sg_addr {α:Type}{t:Ty α}{K:KMap}{xs:List α}{a:Option Addr}{n c:Nat}(h:SliceAt t K a (n+1) c xs): ∃b o,a=some ⟨b,o,none⟩:=by
 obtain⟨_,h2,_,h4⟩:=h
 obtain⟨b,o,e,_⟩:=h4 (by omega)
 exact⟨b,o,e⟩
theorem sg_getI_map {α β:Type}{f:α→β}{xs:List α}{k:Int}{y:β}(h:getI (xs.map f) k=some y): ∃x,getI xs k=some x∧f x=y:=by
 unfold getI at h ⊢
 split at h
 ·rename_i h0
  rw [if_pos h0]
  rw [List.getElem?_map] at h
  exact Option.map_eq_some_iff.1 h
 ·cases h
theorem sg_last {α:Type}{xs:List α}{x:α}{k:Int}(hk:k=xs.length):getI (xs++[x]) k=some x:=by
 subst hk
 unfold getI
 rw [if_pos (by omega)]
 simp
theorem sg_pred {n:Nat}(h:n≤maxLen):w64 ((n:Int)-1)=(n:Int)-1:=w64_of ⟨by omega,by simp [maxLen] at h;omega⟩
theorem sg_back {n:Nat}(h:n≤maxLen):w64 (w64 ((n:Int)-1)+1)=(n:Int):=by
 rw [sg_pred h,show (n:Int)-1+1=n from by omega]
 exact w64_of ⟨by omega,by simp [maxLen] at h;omega⟩
structure PLay where
 doc:Int
 at_:List Int
 a:Option Addr
 n:Nat
 c:Nat
structure ELay where
 field:Str
 term:Str
 posts:List PLay
 a:Option Addr
 n:Nat
 c:Nat
def PLay.x (p:PLay):GPost:=⟨p.doc,p.at_⟩
def ELay.x (e:ELay):GEntry:=⟨e.field,e.term,e.posts.map PLay.x⟩
def PLay.cells (p:PLay):List Value:=[.int .i64 p.doc,.slice p.a p.n p.c]
def ELay.cells (e:ELay):List Value:=[sv e.field,sv e.term,.slice e.a e.n e.c]
def intC (z:Int):Value:=.int .i64 z
def PLay.item (TI:TypeId)(p:PLay):Item:=rowI (.slice p.a p.n p.c) (p.at_.map intC) TI 1
def ELay.row (TP:TypeId)(e:ELay):Item:=rowI (.slice e.a e.n e.c) (e.posts.flatMap PLay.cells) TP 2
def ELay.items (TP TI:TypeId)(e:ELay):List Item:=e.row TP::e.posts.map (PLay.item TI)
def segTop (TE:TypeId)(a:Option Addr)(n c:Nat)(lay:List ELay):Item:=rowI (.slice a n c) (lay.flatMap ELay.cells) TE 3
def segItems (TE TP TI:TypeId)(a:Option Addr)(n c:Nat)(lay:List ELay):List Item:=segTop TE a n c lay::lay.flatMap (ELay.items TP TI)
def PLay.ok (p:PLay):Prop:=rng64 p.doc∧∀z∈p.at_,rng64 z
def ELay.ok (e:ELay):Prop:=e.field.length≤maxLen∧e.term.length≤maxLen∧∀p∈e.posts,p.ok
def LayOk (lay:List ELay)(xs:List GEntry):Prop:=(∀e∈lay,e.ok)∧lay.map ELay.x=xs
section
variable {w w0:World}{K K0:KMap}{M:List Nat}{L:List Item}{TE TP TI:TypeId}{gs:List Nat}{a:Option Addr}{n c:Nat}{lay:List ELay}{xs:List GEntry}
theorem intC_flat: ∀zs:List Int,zs.flatMap (fun z=>[intC z])=zs.map intC
 | []=>rfl
 | z::r=>by rw [List.flatMap_cons,intC_flat r];rfl
theorem sg_ints_row (zs:List Int)(h: ∀z∈zs,rng64 z):RowAt true tInt K (zs.map intC) zs:=by
 have:=RowAt.flatMap (K:=K) (t:=tInt) (cells:=fun z=>[intC z]) (f:=id) (ps:=zs) fun z hz=>⟨intC z,⟨rfl,h z hz⟩,rfl⟩
 rwa [List.map_id,intC_flat] at this
theorem sg_post_row {ps:List PLay}(h:SH w0 K0 M w K L)(hm: ∀p∈ps,p.item TI∈L)(hg: ∀p∈ps,∀b∈(p.item TI).gs,b∈gs)(ho: ∀p∈ps,p.ok):RowAt true tGPost (seeK K w gs) (ps.flatMap PLay.cells) (ps.map PLay.x):=by
 refine RowAt.flatMap fun p hp=>⟨.agg #[.int .i64 p.doc,.slice p.a p.n p.c],⟨p.a,p.n,p.c,rfl,(ho p hp).1,?_⟩,rfl⟩
 exact(see_slice (t:=tInt) h (hm p hp) (hg p hp) (by decide) (sg_ints_row _ (ho p hp).2)).1
theorem sg_entry_row (h:SH w0 K0 M w K L)(hm: ∀it∈lay.flatMap (ELay.items TP TI),it∈L)(hg: ∀it∈lay.flatMap (ELay.items TP TI),∀b∈it.gs,b∈gs)(hl:LayOk lay xs):RowAt true tGEntry (seeK K w gs) (lay.flatMap ELay.cells) xs:=by
 obtain⟨ho,rfl⟩:=hl
 refine RowAt.flatMap fun e he=>⟨.agg #[sv e.field,sv e.term,.slice e.a e.n e.c],⟨e.a,e.n,e.c,rfl,(ho e he).1,(ho e he).2.1,?_⟩,rfl⟩
 have h1: ∀it∈e.items TP TI,it∈lay.flatMap (ELay.items TP TI):=fun it hi=>List.mem_flatMap.2 ⟨e,he,hi⟩
 refine(see_slice (t:=tGPost) h (hm _ (h1 _ (List.mem_cons_self ..))) (hg _ (h1 _ (List.mem_cons_self ..))) (by decide) (sg_post_row (TI:=TI) h ?_ ?_ (ho e he).2.2)).1
 ·exact fun p hp=>hm _ (h1 _ (List.mem_cons_of_mem _ (List.mem_map.2 ⟨p,hp,rfl⟩)))
 ·exact fun p hp=>hg _ (h1 _ (List.mem_cons_of_mem _ (List.mem_map.2 ⟨p,hp,rfl⟩)))
theorem seg_lent (h:SH w0 K0 M w K L)(hm: ∀it∈segItems TE TP TI a n c lay,it∈L)(hg: ∀it∈segItems TE TP TI a n c lay,∀b∈it.gs,b∈gs)(hl:LayOk lay xs):SliceAt tGEntry (seeK K w gs) a n c xs∧n=xs.length:=
 see_slice (t:=tGEntry) h (hm _ (List.mem_cons_self ..)) (hg _ (List.mem_cons_self ..)) (by decide) (sg_entry_row (TP:=TP) (TI:=TI) h (fun it hi=>hm it (List.mem_cons_of_mem _ hi)) (fun it hi=>hg it (List.mem_cons_of_mem _ hi)) hl)
theorem seg_see (h:SH w0 K0 M w K (pack (segItems TE TP TI a n c lay)::L))(hl:LayOk lay xs):
  ∃K' cs,KLe K K'∧RowAt true tGEntry K' cs xs∧n=xs.length∧SH w0 K0 M w K' (rowI (.slice a n c) cs TE 3::L):=by
 have h1:=h.unpack
 have h2:SH w0 K0 M w K (lay.flatMap (ELay.items TP TI)++(segTop TE a n c lay::L)):=h1.perm (List.perm_middle (l₁:=lay.flatMap (ELay.items TP TI)))
 have hr:RowAt true tGEntry (seeK K w ((lay.flatMap (ELay.items TP TI)).flatMap Item.gs)) (lay.flatMap ELay.cells) xs:=
  sg_entry_row (TP:=TP) (TI:=TI) h2 (fun it hi=>List.mem_append_left _ hi) (fun it hi b hb=>List.mem_flatMap.2 ⟨it,hi,hb⟩) hl
 refine⟨_,_,see_le h.holds,hr,?_,h2.see⟩
 have hcl:=hr.1.2 rfl
 rcases h2.rowI_cases (U:=TE) (sz:=3) (List.mem_append_right _ (List.mem_cons_self ..)) with ⟨_,h3,_,h4⟩ | ⟨g,cur,_,h3,h4,h5,_⟩
 ·rw [h4] at hcl;simp [tGEntry] at hcl;omega
 ·rw [h5] at hcl;simp [tGEntry] at hcl;omega
theorem seg_empty {a:Option Addr}{c:Nat}(h:SH w0 K0 M w K (tail (.slice a 0 c) TE 3::L)):SH w0 K0 M w K (pack (segItems TE TP TI a 0 c [])::L):=by
 refine SH.packUp (ls:=segItems TE TP TI a 0 c []) (?_:SH w0 K0 M w K (rowI (.slice a 0 c) [] TE 3::L))
 have hi:=h.items _ (List.mem_cons_self ..)
 refine⟨h.os,h.tape,h.output,h.holds,h.le,h.size,h.old,h.oldK,fun it hit=>?_,fun it hit b hb=>?_,h.nodup,h.drawn⟩
 ·rcases List.mem_cons.1 hit with rfl | hit
  ·refine⟨?_,fun b hb=>?_⟩
   ·rcases hi.1 with h1 | ⟨g,n,cap,h1,h2,h3⟩
    ·exact .inl ⟨h1,rfl⟩
    ·injection h1 with e1 e2 e3
     subst e1 e2 e3
     exact .inr ⟨g,0,c,rfl,h2,h3,by simp⟩
   ·obtain⟨g,n,cap,cur,h1,h2,h3,h4⟩:=hi.2 b hb
    injection h1 with e1 e2 e3
    subst e1 e2 e3
    exact⟨⟨g,0,c,cur,rfl,h2,h3,by simp⟩,fun i=>h4 i (by omega)⟩
  ·exact h.items it (List.mem_cons_of_mem _ hit)
 ·rcases List.mem_cons.1 hit with rfl | hit
  ·exact h.lt _ (List.mem_cons_self ..) b hb
  ·exact h.lt it (List.mem_cons_of_mem _ hit) b hb
theorem seg_focus {pre post:List ELay}{e:ELay}:(segItems TE TP TI a n c (pre++e::post)).Perm (segTop TE a n c (pre++e::post)::e.row TP::(e.posts.map (PLay.item TI)++(pre.flatMap (ELay.items TP TI)++post.flatMap (ELay.items TP TI)))):=by
 refine List.Perm.cons _ ?_
 rw [List.flatMap_append,List.flatMap_cons]
 refine(List.perm_append_comm_assoc _ _ _).trans ?_
 simp only [ELay.items,List.cons_append]
 exact List.Perm.refl _
theorem post_focus {ps:List PLay}{p:PLay}{R:List Item}:((ps++[p]).map (PLay.item TI)++R).Perm (p.item TI::(ps.map (PLay.item TI)++R)):=by
 rw [List.map_append,List.append_assoc]
 exact List.perm_middle
theorem sg_split {α:Type}{xs:List α}{k:Int}{x:α}(h:getI xs k=some x): ∃pre post,xs=pre++x::post∧pre.length=k.toNat∧0≤k:=by
 obtain⟨h0,h1,h2⟩:=getI_some h
 have hl:=(List.getElem?_eq_some_iff.1 h2)
 obtain⟨hlt,rfl⟩:=hl
 exact⟨xs.take k.toNat,xs.drop (k.toNat+1),by rw [List.getElem_cons_drop,List.take_append_drop],by rw [List.length_take];omega,h0⟩
theorem sg_cells3 (pre:List ELay):(pre.flatMap ELay.cells).length=pre.length*3:=by
 induction pre with
 | nil=>rfl
 | cons e r ih=>rw [List.flatMap_cons,List.length_append,ih];simp [ELay.cells];omega
theorem sg_cells2 (pre:List PLay):(pre.flatMap PLay.cells).length=pre.length*2:=by
 induction pre with
 | nil=>rfl
 | cons e r ih=>rw [List.flatMap_cons,List.length_append,ih];simp [PLay.cells];omega
theorem sg_head_at {pre post:List ELay}{e:ELay}{o:Nat}(ho:o=pre.length*3+2):((pre++e::post).flatMap ELay.cells)[o]? =some (.slice e.a e.n e.c):=by
 subst ho
 rw [List.flatMap_append,List.flatMap_cons,List.getElem?_append_right (by rw [sg_cells3];omega),sg_cells3,show pre.length*3+2-pre.length*3=2 from by omega]
 rfl
theorem sg_head_set {pre post:List ELay}{e e':ELay}{o:Nat}(ho:o=pre.length*3+2)(hf:e'.field=e.field)(ht:e'.term=e.term):((pre++e::post).flatMap ELay.cells).set o (.slice e'.a e'.n e'.c)=(pre++e'::post).flatMap ELay.cells:=by
 subst ho
 rw [List.flatMap_append,List.flatMap_cons,List.set_append_right _ _ (by rw [sg_cells3];omega),sg_cells3,show pre.length*3+2-pre.length*3=2 from by omega,List.flatMap_append,List.flatMap_cons]
 simp [ELay.cells,hf,ht]
theorem sg_post_at {ps:List PLay}{p:PLay}{o k:Nat}(ho:o=ps.length*2+k):((ps++[p]).flatMap PLay.cells)[o]? =p.cells[k]? :=by
 subst ho
 rw [List.flatMap_append,List.getElem?_append_right (by rw [sg_cells2];omega),sg_cells2,show ps.length*2+k-ps.length*2=k from by omega]
 simp
theorem sg_post_set {ps:List PLay}{p p':PLay}{o:Nat}(ho:o=ps.length*2+1)(hd:p'.doc=p.doc):((ps++[p]).flatMap PLay.cells).set o (.slice p'.a p'.n p'.c)=(ps++[p']).flatMap PLay.cells:=by
 subst ho
 rw [List.flatMap_append,List.set_append_right _ _ (by rw [sg_cells2];omega),sg_cells2,show ps.length*2+1-ps.length*2=1 from by omega,List.flatMap_append]
 simp [PLay.cells,hd]
theorem sg_row_len {e:ELay}(h:SH w0 K0 M w K L)(hm:e.row TP∈L):e.n=e.posts.length:=by
 rcases h.rowI_cases hm with ⟨_,h1,_,h2⟩ | ⟨g,cur,_,h1,h2,h3,_⟩
 ·have:=sg_cells2 e.posts;rw [h2,List.length_nil] at this;omega
 ·rw [sg_cells2] at h3;omega
theorem sg_top_len (h:SH w0 K0 M w K L)(hm:segTop TE a n c lay∈L):n=lay.length:=by
 rcases h.rowI_cases hm with ⟨_,h1,_,h2⟩ | ⟨g,cur,_,h1,h2,h3,_⟩
 ·have:=sg_cells3 lay;rw [h2,List.length_nil] at this;omega
 ·rw [sg_cells3] at h3;omega
theorem sg_item_len {p:PLay}(h:SH w0 K0 M w K L)(hm:p.item TI∈L):p.n=p.at_.length:=by
 rcases h.rowI_cases hm with ⟨_,h1,_,h2⟩ | ⟨g,cur,_,h1,h2,h3,_⟩
 ·simp at h2;simp [h1,h2]
 ·simp at h3;omega
end
end Go.Fk
