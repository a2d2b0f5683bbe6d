/-
  An index's entries as rows of the call's own: the entries' row, each entry's row of posts, each post's row of places. Of no program.
-/
import Derived.Test.YtpdfkjjmcnhakaaGreatDoorTypes
import Derived.Test.YtpdfkjjmcnhakaaGreatDoorCoreP
namespace Go.Fk
open Go
set_option linter.unusedSectionVars false
variable [dr:Dr]
def b5e (k:Nat):Ty (List Value) where
 size:=k
 agg:=true
 rel:=fun _ v x=>v= .agg x.toArray∧x.length=k∧∀c∈x,c.oneCell'=true
 mono:=fun _ _ _ h=>h
 shape:=by rintro K v x ⟨rfl,_,_⟩;exact .inl ⟨rfl,_,rfl⟩
 size_eq:=by rintro K v x ⟨rfl,h,_⟩;simpa [Value.cells] using h
 ones:=by rintro K v x ⟨rfl,_,h⟩;simpa [Value.cells] using h
theorem b3P {K:C7}{cs:List Value}{k:Nat}{b o c:Nat}(h:b7 (b5e k) K (some ⟨b,o,none⟩) 1 c [cs]):D7 K b o cs:=by
 obtain⟨_,h2,_,h4⟩:=h
 obtain⟨b',o',e,h5⟩:=h4 (by omega)
 injection e with e
 injection e with e1 e2 _
 subst e1 e2
 obtain⟨u,⟨rfl,_⟩,hk⟩:=h5 0 cs rfl
 rw [Nat.zero_mul,Nat.add_zero] at hk
 exact hk
theorem b1P {K:C7}{cs:List Value}{k:Nat}{a:Option Addr}{c:Nat}(h:b7 (b5e k) K a 1 c [cs]): ∃b o,a=some ⟨b,o,none⟩:=by
 obtain⟨_,h2,_,h4⟩:=h
 obtain⟨b,o,e,_⟩:=h4 (by omega)
 exact⟨b,o,e⟩
theorem b7l {K:C7}{z:Int}{b o c:Nat}(h:b7 F2 K (some ⟨b,o,none⟩) 1 c [z]):D7 K b o [.int .i64 z]:=by
 obtain⟨_,h2,_,h4⟩:=h
 obtain⟨b',o',e,h5⟩:=h4 (by omega)
 injection e with e
 injection e with e1 e2 _
 subst e1 e2
 obtain⟨u,⟨rfl,_⟩,hk⟩:=h5 0 z rfl
 rw [Nat.zero_mul,Nat.add_zero] at hk
 exact hk
theorem b7H {α:Type}{t:Ty α}{K:C7}{xs:List α}{a:Option Addr}{n c:Nat}(h:b7 t K a (n+1) c xs): ∃b o,a=some ⟨b,o,none⟩:=by
 obtain⟨_,h2,_,h4⟩:=h
 obtain⟨b,o,e,_⟩:=h4 (by omega)
 exact⟨b,o,e⟩
theorem b1W {α β:Type}{f:α→β}{xs:List α}{k:Int}{y:β}(h:p8 (xs.map f) k=some y): ∃x,p8 xs k=some x∧f x=y:=by
 unfold p8 at h ⊢
 split at h
 ·rename_i h0
  rw [if_pos h0]
  rw [List.getElem?_map] at h
  exact Option.map_eq_some_iff.1 h
 ·cases h
theorem b0S {α:Type}{xs:List α}{x:α}{k:Int}(hk:k=xs.length):p8 (xs++[x]) k=some x:=by
 subst hk
 unfold p8
 rw [if_pos (by omega)]
 simp
theorem a7W {n:Nat}(h:n≤maxLen):y8 ((n:Int)-1)=(n:Int)-1:=B9 ⟨by omega,by simp [maxLen] at h;omega⟩
theorem b7I {n:Nat}(h:n≤maxLen):y8 (y8 ((n:Int)-1)+1)=(n:Int):=by
 rw [a7W h,show (n:Int)-1+1=n from by omega]
 exact B9 ⟨by omega,by simp [maxLen] at h;omega⟩
structure M6 where
 doc:Int
 at_:List Int
 a:Option Addr
 n:Nat
 c:Nat
structure E6 where
 field:l3
 term:l3
 posts:List M6
 a:Option Addr
 n:Nat
 c:Nat
def M6.x (p:M6):D1:=⟨p.doc,p.at_⟩
def E6.x (e:E6):v8:=⟨e.field,e.term,e.posts.map M6.x⟩
def M6.cells (p:M6):List Value:=[.int .i64 p.doc,.slice p.a p.n p.c]
def E6.cells (e:E6):List Value:=[sv e.field,sv e.term,.slice e.a e.n e.c]
def b0x (z:Int):Value:=.int .i64 z
def M6.item (TI:TypeId)(p:M6):B8:=N0 (.slice p.a p.n p.c) (p.at_.map b0x) TI 1
def E6.row (TP:TypeId)(e:E6):B8:=N0 (.slice e.a e.n e.c) (e.posts.flatMap M6.cells) TP 2
def E6.items (TP TI:TypeId)(e:E6):List B8:=e.row TP::e.posts.map (M6.item TI)
def U6 (TE:TypeId)(a:Option Addr)(n c:Nat)(lay:List E6):B8:=N0 (.slice a n c) (lay.flatMap E6.cells) TE 3
def I1 (TE TP TI:TypeId)(a:Option Addr)(n c:Nat)(lay:List E6):List B8:=U6 TE a n c lay::lay.flatMap (E6.items TP TI)
def M6.ok (p:M6):Prop:=j5 p.doc∧∀z∈p.at_,j5 z
def E6.ok (e:E6):Prop:=e.field.length≤maxLen∧e.term.length≤maxLen∧∀p∈e.posts,p.ok
def a3O (lay:List E6)(xs:List v8):Prop:=(∀e∈lay,e.ok)∧lay.map E6.x=xs
section
variable {w w0:World}{K K0:C7}{M:List Nat}{L:List B8}{TE TP TI:TypeId}{gs:List Nat}{a:Option Addr}{n c:Nat}{lay:List E6}{xs:List v8}
theorem a9M: ∀zs:List Int,zs.flatMap (fun z=>[b0x z])=zs.map b0x
 | []=>rfl
 | z::r=>by rw [List.flatMap_cons,a9M r];rfl
theorem b1Y (zs:List Int)(h: ∀z∈zs,j5 z):A9 true F2 K (zs.map b0x) zs:=by
 have:=A9.flatMap (K:=K) (t:=F2) (cells:=fun z=>[b0x z]) (f:=id) (ps:=zs) fun z hz=>⟨b0x z,⟨rfl,h z hz⟩,rfl⟩
 rwa [List.map_id,a9M] at this
theorem b10 {ps:List M6}(h:SH w0 K0 M w K L)(hm: ∀p∈ps,p.item TI∈L)(hg: ∀p∈ps,∀b∈(p.item TI).gs,b∈gs)(ho: ∀p∈ps,p.ok):A9 true P8 (a6Q K w gs) (ps.flatMap M6.cells) (ps.map M6.x):=by
 refine A9.flatMap fun p hp=>⟨.agg #[.int .i64 p.doc,.slice p.a p.n p.c],⟨p.a,p.n,p.c,rfl,(ho p hp).1,?_⟩,rfl⟩
 exact(a6R (t:=F2) h (hm p hp) (hg p hp) (by decide) (b1Y _ (ho p hp).2)).1
theorem a6j (h:SH w0 K0 M w K L)(hm: ∀it∈lay.flatMap (E6.items TP TI),it∈L)(hg: ∀it∈lay.flatMap (E6.items TP TI),∀b∈it.gs,b∈gs)(hl:a3O lay xs):A9 true B4 (a6Q K w gs) (lay.flatMap E6.cells) xs:=by
 obtain⟨ho,rfl⟩:=hl
 refine A9.flatMap fun e he=>⟨.agg #[sv e.field,sv e.term,.slice e.a e.n e.c],⟨e.a,e.n,e.c,rfl,(ho e he).1,(ho e he).2.1,?_⟩,rfl⟩
 have h1: ∀it∈e.items TP TI,it∈lay.flatMap (E6.items TP TI):=fun it hi=>List.mem_flatMap.2 ⟨e,he,hi⟩
 refine(a6R (t:=P8) h (hm _ (h1 _ (List.mem_cons_self ..))) (hg _ (h1 _ (List.mem_cons_self ..))) (by decide) (b10 (TI:=TI) h ?_ ?_ (ho e he).2.2)).1
 ·exact fun p hp=>hm _ (h1 _ (List.mem_cons_of_mem _ (List.mem_map.2 ⟨p,hp,rfl⟩)))
 ·exact fun p hp=>hg _ (h1 _ (List.mem_cons_of_mem _ (List.mem_map.2 ⟨p,hp,rfl⟩)))
theorem b6p (h:SH w0 K0 M w K L)(hm: ∀it∈I1 TE TP TI a n c lay,it∈L)(hg: ∀it∈I1 TE TP TI a n c lay,∀b∈it.gs,b∈gs)(hl:a3O lay xs):b7 B4 (a6Q K w gs) a n c xs∧n=xs.length:=
 a6R (t:=B4) h (hm _ (List.mem_cons_self ..)) (hg _ (List.mem_cons_self ..)) (by decide) (a6j (TP:=TP) (TI:=TI) h (fun it hi=>hm it (List.mem_cons_of_mem _ hi)) (fun it hi=>hg it (List.mem_cons_of_mem _ hi)) hl)
theorem b7G (h:SH w0 K0 M w K (a4s (I1 TE TP TI a n c lay)::L))(hl:a3O lay xs):
  ∃K' cs,H7 K K'∧A9 true B4 K' cs xs∧n=xs.length∧SH w0 K0 M w K' (N0 (.slice a n c) cs TE 3::L):=by
 have h1:=h.unpack
 have h2:SH w0 K0 M w K (lay.flatMap (E6.items TP TI)++(U6 TE a n c lay::L)):=h1.perm (List.perm_middle (l₁:=lay.flatMap (E6.items TP TI)))
 have hr:A9 true B4 (a6Q K w ((lay.flatMap (E6.items TP TI)).flatMap B8.gs)) (lay.flatMap E6.cells) xs:=
  a6j (TP:=TP) (TI:=TI) h2 (fun it hi=>List.mem_append_left _ hi) (fun it hi b hb=>List.mem_flatMap.2 ⟨it,hi,hb⟩) hl
 refine⟨_,_,a80 h.holds,hr,?_,h2.see⟩
 have hcl:=hr.1.2 rfl
 rcases h2.rowI_cases (U:=TE) (sz:=3) (List.mem_append_right _ (List.mem_cons_self ..)) with ⟨_,h3,_,h4⟩ | ⟨g,cur,_,h3,h4,h5,_⟩
 ·rw [h4] at hcl;simp [B4] at hcl;omega
 ·rw [h5] at hcl;simp [B4] at hcl;omega
theorem b4Z {a:Option Addr}{c:Nat}(h:SH w0 K0 M w K (tail (.slice a 0 c) TE 3::L)):SH w0 K0 M w K (a4s (I1 TE TP TI a 0 c [])::L):=by
 refine SH.packUp (ls:=I1 TE TP TI a 0 c []) (?_:SH w0 K0 M w K (N0 (.slice a 0 c) [] TE 3::L))
 have hi:=h.items _ (List.mem_cons_self ..)
 refine⟨h.os,h.tape,h.output,h.holds,h.le,h.size,h.old,h.oldK,fun it hit=>?_,fun it hit b hb=>?_,h.nodup,h.drawn⟩
 ·rcases List.mem_cons.1 hit with rfl | hit
  ·refine⟨?_,fun b hb=>?_⟩
   ·rcases hi.1 with h1 | ⟨g,n,cap,h1,h2,h3⟩
    ·exact .inl ⟨h1,rfl⟩
    ·injection h1 with e1 e2 e3
     subst e1 e2 e3
     exact .inr ⟨g,0,c,rfl,h2,h3,by simp⟩
   ·obtain⟨g,n,cap,cur,h1,h2,h3,h4⟩:=hi.2 b hb
    injection h1 with e1 e2 e3
    subst e1 e2 e3
    exact⟨⟨g,0,c,cur,rfl,h2,h3,by simp⟩,fun i=>h4 i (by omega)⟩
  ·exact h.items it (List.mem_cons_of_mem _ hit)
 ·rcases List.mem_cons.1 hit with rfl | hit
  ·exact h.lt _ (List.mem_cons_self ..) b hb
  ·exact h.lt it (List.mem_cons_of_mem _ hit) b hb
theorem a93 {pre post:List E6}{e:E6}:(I1 TE TP TI a n c (pre++e::post)).Perm (U6 TE a n c (pre++e::post)::e.row TP::(e.posts.map (M6.item TI)++(pre.flatMap (E6.items TP TI)++post.flatMap (E6.items TP TI)))):=by
 refine List.Perm.cons _ ?_
 rw [List.flatMap_append,List.flatMap_cons]
 refine(List.perm_append_comm_assoc _ _ _).trans ?_
 simp only [E6.items,List.cons_append]
 exact List.Perm.refl _
theorem a8L {ps:List M6}{p:M6}{R:List B8}:((ps++[p]).map (M6.item TI)++R).Perm (p.item TI::(ps.map (M6.item TI)++R)):=by
 rw [List.map_append,List.append_assoc]
 exact List.perm_middle
theorem b6q {α:Type}{xs:List α}{k:Int}{x:α}(h:p8 xs k=some x): ∃pre post,xs=pre++x::post∧pre.length=k.toNat∧0≤k:=by
 obtain⟨h0,h1,h2⟩:=a0j h
 have hl:=(g8.1 h2)
 obtain⟨hlt,rfl⟩:=hl
 exact⟨xs.take k.toNat,xs.drop (k.toNat+1),by rw [List.getElem_cons_drop,List.take_append_drop],by rw [List.length_take];omega,h0⟩
theorem a1z (pre:List E6):(pre.flatMap E6.cells).length=pre.length*3:=by
 induction pre with
 | nil=>rfl
 | cons e r ih=>rw [List.flatMap_cons,j8,ih];simp [E6.cells];omega
theorem a1y (pre:List M6):(pre.flatMap M6.cells).length=pre.length*2:=by
 induction pre with
 | nil=>rfl
 | cons e r ih=>rw [List.flatMap_cons,j8,ih];simp [M6.cells];omega
theorem a81 {pre post:List E6}{e:E6}{o:Nat}(ho:o=pre.length*3+2):((pre++e::post).flatMap E6.cells)[o]? =some (.slice e.a e.n e.c):=by
 subst ho
 rw [List.flatMap_append,List.flatMap_cons,List.getElem?_append_right (by rw [a1z];omega),a1z,show pre.length*3+2-pre.length*3=2 from by omega]
 rfl
theorem b1X {pre post:List E6}{e e':E6}{o:Nat}(ho:o=pre.length*3+2)(hf:e'.field=e.field)(ht:e'.term=e.term):((pre++e::post).flatMap E6.cells).set o (.slice e'.a e'.n e'.c)=(pre++e'::post).flatMap E6.cells:=by
 subst ho
 rw [List.flatMap_append,List.flatMap_cons,List.set_append_right _ _ (by rw [a1z];omega),a1z,show pre.length*3+2-pre.length*3=2 from by omega,List.flatMap_append,List.flatMap_cons]
 simp [E6.cells,hf,ht]
theorem a82 {ps:List M6}{p:M6}{o k:Nat}(ho:o=ps.length*2+k):((ps++[p]).flatMap M6.cells)[o]? =p.cells[k]? :=by
 subst ho
 rw [List.flatMap_append,List.getElem?_append_right (by rw [a1y];omega),a1y,show ps.length*2+k-ps.length*2=k from by omega]
 simp
theorem b11 {ps:List M6}{p p':M6}{o:Nat}(ho:o=ps.length*2+1)(hd:p'.doc=p.doc):((ps++[p]).flatMap M6.cells).set o (.slice p'.a p'.n p'.c)=(ps++[p']).flatMap M6.cells:=by
 subst ho
 rw [List.flatMap_append,List.set_append_right _ _ (by rw [a1y];omega),a1y,show ps.length*2+1-ps.length*2=1 from by omega,List.flatMap_append]
 simp [M6.cells,hd]
theorem a83 {e:E6}(h:SH w0 K0 M w K L)(hm:e.row TP∈L):e.n=e.posts.length:=by
 rcases h.rowI_cases hm with ⟨_,h1,_,h2⟩ | ⟨g,cur,_,h1,h2,h3,_⟩
 ·have:=a1y e.posts;rw [h2,List.length_nil] at this;omega
 ·rw [a1y] at h3;omega
theorem a84 (h:SH w0 K0 M w K L)(hm:U6 TE a n c lay∈L):n=lay.length:=by
 rcases h.rowI_cases hm with ⟨_,h1,_,h2⟩ | ⟨g,cur,_,h1,h2,h3,_⟩
 ·have:=a1z lay;rw [h2,List.length_nil] at this;omega
 ·rw [a1z] at h3;omega
theorem b1Z {p:M6}(h:SH w0 K0 M w K L)(hm:p.item TI∈L):p.n=p.at_.length:=by
 rcases h.rowI_cases hm with ⟨_,h1,_,h2⟩ | ⟨g,cur,_,h1,h2,h3,_⟩
 ·simp at h2;simp [h1,h2]
 ·simp at h3;omega
end
end Go.Fk
