/-
  An index's entries as rows of the call's own: the entries' row, each entry's row of posts, each post's row of places. Of no program.
-/
import Derived.Test.YtnloenhmkdpgeaaGreatDoorTypes
import Derived.Test.YtnloenhmkdpgeaaGreatDoorCoreSQ
namespace Go.Fk
open Go
set_option linter.unusedSectionVars false
variable [dr:Dr]
def c04 (k:Nat):Ty (List Value) where
 size:=k
 agg:=true
 rel:=fun _ v x=>v= .agg x.toArray∧x.length=k∧∀c∈x,c.oneCell'=true
 mono:=fun _ _ _ h=>h
 shape:=by rintro K v x ⟨rfl,_,_⟩;exact .inl ⟨rfl,_,rfl⟩
 size_eq:=by rintro K v x ⟨rfl,h,_⟩;simpa [Value.cells] using h
 ones:=by rintro K v x ⟨rfl,_,h⟩;simpa [Value.cells] using h
theorem b9p {K:F9}{cs:List Value}{k:Nat}{b o c:Nat}(h:b7 (c04 k) K (some ⟨b,o,none⟩) 1 c [cs]):F1 K b o cs:=by
 obtain⟨_,h2,_,h4⟩:=h
 obtain⟨b',o',e,h5⟩:=h4 (by omega)
 injection e with e
 injection e with e1 e2 _
 subst e1 e2
 obtain⟨u,⟨rfl,_⟩,hk⟩:=h5 0 cs rfl
 rw [Nat.zero_mul,Nat.add_zero] at hk
 exact hk
theorem b7n {K:F9}{cs:List Value}{k:Nat}{a:Option Addr}{c:Nat}(h:b7 (c04 k) K a 1 c [cs]): ∃b o,a=some ⟨b,o,none⟩:=by
 obtain⟨_,h2,_,h4⟩:=h
 obtain⟨b,o,e,_⟩:=h4 (by omega)
 exact⟨b,o,e⟩
theorem c3c {K:F9}{z:Int}{b o c:Nat}(h:b7 D6 K (some ⟨b,o,none⟩) 1 c [z]):F1 K b o [.int .i64 z]:=by
 obtain⟨_,h2,_,h4⟩:=h
 obtain⟨b',o',e,h5⟩:=h4 (by omega)
 injection e with e
 injection e with e1 e2 _
 subst e1 e2
 obtain⟨u,⟨rfl,_⟩,hk⟩:=h5 0 z rfl
 rw [Nat.zero_mul,Nat.add_zero] at hk
 exact hk
theorem c3B {α:Type}{t:Ty α}{K:F9}{xs:List α}{a:Option Addr}{n c:Nat}(h:b7 t K a (n+1) c xs): ∃b o,a=some ⟨b,o,none⟩:=by
 obtain⟨_,h2,_,h4⟩:=h
 obtain⟨b,o,e,_⟩:=h4 (by omega)
 exact⟨b,o,e⟩
theorem b7x {α β:Type}{f:α→β}{xs:List α}{k:Int}{y:β}(h:v8 (xs.map f) k=some y): ∃x,v8 xs k=some x∧f x=y:=by
 unfold v8 at h ⊢
 split at h
 ·rename_i h0
  rw [if_pos h0]
  rw [List.getElem?_map] at h
  exact Option.map_eq_some_iff.1 h
 ·cases h
theorem b56 {α:Type}{xs:List α}{x:α}{k:Int}(hk:k=xs.length):v8 (xs++[x]) k=some x:=by
 subst hk
 unfold v8
 rw [if_pos (by omega)]
 simp
theorem b3e {n:Nat}(h:n≤maxLen):z8 ((n:Int)-1)=(n:Int)-1:=C5 ⟨by omega,by simp [maxLen] at h;omega⟩
theorem c3C {n:Nat}(h:n≤maxLen):z8 (z8 ((n:Int)-1)+1)=(n:Int):=by
 rw [b3e h,show (n:Int)-1+1=n from by omega]
 exact C5 ⟨by omega,by simp [maxLen] at h;omega⟩
structure Y5 where
 doc:Int
 at_:List Int
 a:Option Addr
 n:Nat
 c:Nat
structure L9 where
 field:r4
 term:r4
 posts:List Y5
 a:Option Addr
 n:Nat
 c:Nat
def Y5.x (p:Y5):F7:=⟨p.doc,p.at_⟩
def L9.x (e:L9):C0:=⟨e.field,e.term,e.posts.map Y5.x⟩
def Y5.cells (p:Y5):List Value:=[.int .i64 p.doc,.slice p.a p.n p.c]
def L9.cells (e:L9):List Value:=[sv e.field,sv e.term,.slice e.a e.n e.c]
def b5L (z:Int):Value:=.int .i64 z
def Y5.item (TI:TypeId)(p:Y5):F5:=Z5 (.slice p.a p.n p.c) (p.at_.map b5L) TI 1
def L9.row (TP:TypeId)(e:L9):F5:=Z5 (.slice e.a e.n e.c) (e.posts.flatMap Y5.cells) TP 2
def L9.items (TP TI:TypeId)(e:L9):List F5:=e.row TP::e.posts.map (Y5.item TI)
def a1Z (TE:TypeId)(a:Option Addr)(n c:Nat)(lay:List L9):F5:=Z5 (.slice a n c) (lay.flatMap L9.cells) TE 3
def S6 (TE TP TI:TypeId)(a:Option Addr)(n c:Nat)(lay:List L9):List F5:=a1Z TE a n c lay::lay.flatMap (L9.items TP TI)
def Y5.ok (p:Y5):Prop:=i7 p.doc∧∀z∈p.at_,i7 z
def L9.ok (e:L9):Prop:=e.field.length≤maxLen∧e.term.length≤maxLen∧∀p∈e.posts,p.ok
def a7A (lay:List L9)(xs:List C0):Prop:=(∀e∈lay,e.ok)∧lay.map L9.x=xs
section
variable {w w0:World}{K K0:F9}{M:List Nat}{L:List F5}{TE TP TI:TypeId}{gs:List Nat}{a:Option Addr}{n c:Nat}{lay:List L9}{xs:List C0}
theorem b41: ∀zs:List Int,zs.flatMap (fun z=>[b5L z])=zs.map b5L
 | []=>rfl
 | z::r=>by rw [List.flatMap_cons,b41 r];rfl
theorem b7z (zs:List Int)(h: ∀z∈zs,i7 z):E1 true D6 K (zs.map b5L) zs:=by
 have:=E1.flatMap (K:=K) (t:=D6) (cells:=fun z=>[b5L z]) (f:=id) (ps:=zs) fun z hz=>⟨b5L z,⟨rfl,h z hz⟩,rfl⟩
 rwa [List.map_id,b41] at this
theorem b7B {ps:List Y5}(h:SH w0 K0 M w K L)(hm: ∀p∈ps,p.item TI∈L)(hg: ∀p∈ps,∀b∈(p.item TI).gs,b∈gs)(ho: ∀p∈ps,p.ok):E1 true S2 (b1K K w gs) (ps.flatMap Y5.cells) (ps.map Y5.x):=by
 refine E1.flatMap fun p hp=>⟨.agg #[.int .i64 p.doc,.slice p.a p.n p.c],⟨p.a,p.n,p.c,rfl,(ho p hp).1,?_⟩,rfl⟩
 exact(b1L (t:=D6) h (hm p hp) (hg p hp) (by decide) (b7z _ (ho p hp).2)).1
theorem b0Y (h:SH w0 K0 M w K L)(hm: ∀it∈lay.flatMap (L9.items TP TI),it∈L)(hg: ∀it∈lay.flatMap (L9.items TP TI),∀b∈it.gs,b∈gs)(hl:a7A lay xs):E1 true B8 (b1K K w gs) (lay.flatMap L9.cells) xs:=by
 obtain⟨ho,rfl⟩:=hl
 refine E1.flatMap fun e he=>⟨.agg #[sv e.field,sv e.term,.slice e.a e.n e.c],⟨e.a,e.n,e.c,rfl,(ho e he).1,(ho e he).2.1,?_⟩,rfl⟩
 have h1: ∀it∈e.items TP TI,it∈lay.flatMap (L9.items TP TI):=fun it hi=>List.mem_flatMap.2 ⟨e,he,hi⟩
 refine(b1L (t:=S2) h (hm _ (h1 _ (List.mem_cons_self ..))) (hg _ (h1 _ (List.mem_cons_self ..))) (by decide) (b7B (TI:=TI) h ?_ ?_ (ho e he).2.2)).1
 ·exact fun p hp=>hm _ (h1 _ (List.mem_cons_of_mem _ (List.mem_map.2 ⟨p,hp,rfl⟩)))
 ·exact fun p hp=>hg _ (h1 _ (List.mem_cons_of_mem _ (List.mem_map.2 ⟨p,hp,rfl⟩)))
theorem c2j (h:SH w0 K0 M w K L)(hm: ∀it∈S6 TE TP TI a n c lay,it∈L)(hg: ∀it∈S6 TE TP TI a n c lay,∀b∈it.gs,b∈gs)(hl:a7A lay xs):b7 B8 (b1K K w gs) a n c xs∧n=xs.length:=
 b1L (t:=B8) h (hm _ (List.mem_cons_self ..)) (hg _ (List.mem_cons_self ..)) (by decide) (b0Y (TP:=TP) (TI:=TI) h (fun it hi=>hm it (List.mem_cons_of_mem _ hi)) (fun it hi=>hg it (List.mem_cons_of_mem _ hi)) hl)
theorem c3z (h:SH w0 K0 M w K (a8D (S6 TE TP TI a n c lay)::L))(hl:a7A lay xs):
  ∃K' cs,M0 K K'∧E1 true B8 K' cs xs∧n=xs.length∧SH w0 K0 M w K' (Z5 (.slice a n c) cs TE 3::L):=by
 have h1:=h.unpack
 have h2:SH w0 K0 M w K (lay.flatMap (L9.items TP TI)++(a1Z TE a n c lay::L)):=h1.perm (List.perm_middle (l₁:=lay.flatMap (L9.items TP TI)))
 have hr:E1 true B8 (b1K K w ((lay.flatMap (L9.items TP TI)).flatMap F5.gs)) (lay.flatMap L9.cells) xs:=
  b0Y (TP:=TP) (TI:=TI) h2 (fun it hi=>List.mem_append_left _ hi) (fun it hi b hb=>List.mem_flatMap.2 ⟨it,hi,hb⟩) hl
 refine⟨_,_,b39 h.holds,hr,?_,h2.see⟩
 have hcl:=hr.1.2 rfl
 rcases h2.rowI_cases (U:=TE) (sz:=3) (List.mem_append_right _ (List.mem_cons_self ..)) with ⟨_,h3,_,h4⟩ | ⟨g,cur,_,h3,h4,h5,_⟩
 ·rw [h4] at hcl;simp [B8] at hcl;omega
 ·rw [h5] at hcl;simp [B8] at hcl;omega
theorem c0J {a:Option Addr}{c:Nat}(h:SH w0 K0 M w K (tail (.slice a 0 c) TE 3::L)):SH w0 K0 M w K (a8D (S6 TE TP TI a 0 c [])::L):=by
 refine SH.packUp (ls:=S6 TE TP TI a 0 c []) (?_:SH w0 K0 M w K (Z5 (.slice a 0 c) [] TE 3::L))
 have hi:=h.items _ (List.mem_cons_self ..)
 refine⟨h.os,h.tape,h.output,h.holds,h.le,h.size,h.old,h.oldK,fun it hit=>?_,fun it hit b hb=>?_,h.nodup,h.drawn⟩
 ·rcases List.mem_cons.1 hit with rfl | hit
  ·refine⟨?_,fun b hb=>?_⟩
   ·rcases hi.1 with h1 | ⟨g,n,cap,h1,h2,h3⟩
    ·exact .inl ⟨h1,rfl⟩
    ·injection h1 with e1 e2 e3
     subst e1 e2 e3
     exact .inr ⟨g,0,c,rfl,h2,h3,by simp⟩
   ·obtain⟨g,n,cap,cur,h1,h2,h3,h4⟩:=hi.2 b hb
    injection h1 with e1 e2 e3
    subst e1 e2 e3
    exact⟨⟨g,0,c,cur,rfl,h2,h3,by simp⟩,fun i=>h4 i (by omega)⟩
  ·exact h.items it (List.mem_cons_of_mem _ hit)
 ·rcases List.mem_cons.1 hit with rfl | hit
  ·exact h.lt _ (List.mem_cons_self ..) b hb
  ·exact h.lt it (List.mem_cons_of_mem _ hit) b hb
theorem b5j {pre post:List L9}{e:L9}:(S6 TE TP TI a n c (pre++e::post)).Perm (a1Z TE a n c (pre++e::post)::e.row TP::(e.posts.map (Y5.item TI)++(pre.flatMap (L9.items TP TI)++post.flatMap (L9.items TP TI)))):=by
 refine List.Perm.cons _ ?_
 rw [List.flatMap_append,List.flatMap_cons]
 refine(List.perm_append_comm_assoc _ _ _).trans ?_
 simp only [L9.items,List.cons_append]
 exact List.Perm.refl _
theorem b31 {ps:List Y5}{p:Y5}{R:List F5}:((ps++[p]).map (Y5.item TI)++R).Perm (p.item TI::(ps.map (Y5.item TI)++R)):=by
 rw [List.map_append,List.append_assoc]
 exact List.perm_middle
theorem c2k {α:Type}{xs:List α}{k:Int}{x:α}(h:v8 xs k=some x): ∃pre post,xs=pre++x::post∧pre.length=k.toNat∧0≤k:=by
 obtain⟨h0,h1,h2⟩:=a3n h
 have hl:=(i4.1 h2)
 obtain⟨hlt,rfl⟩:=hl
 exact⟨xs.take k.toNat,xs.drop (k.toNat+1),by rw [List.getElem_cons_drop,List.take_append_drop],by rw [List.length_take];omega,h0⟩
theorem a41 (pre:List L9):(pre.flatMap L9.cells).length=pre.length*3:=by
 induction pre with
 | nil=>rfl
 | cons e r ih=>rw [List.flatMap_cons,o0,ih];simp [L9.cells];omega
theorem a40 (pre:List Y5):(pre.flatMap Y5.cells).length=pre.length*2:=by
 induction pre with
 | nil=>rfl
 | cons e r ih=>rw [List.flatMap_cons,o0,ih];simp [Y5.cells];omega
theorem b4a {pre post:List L9}{e:L9}{o:Nat}(ho:o=pre.length*3+2):((pre++e::post).flatMap L9.cells)[o]? =some (.slice e.a e.n e.c):=by
 subst ho
 rw [List.flatMap_append,List.flatMap_cons,List.getElem?_append_right (by rw [a41];omega),a41,show pre.length*3+2-pre.length*3=2 from by omega]
 rfl
theorem b7y {pre post:List L9}{e e':L9}{o:Nat}(ho:o=pre.length*3+2)(hf:e'.field=e.field)(ht:e'.term=e.term):((pre++e::post).flatMap L9.cells).set o (.slice e'.a e'.n e'.c)=(pre++e'::post).flatMap L9.cells:=by
 subst ho
 rw [List.flatMap_append,List.flatMap_cons,List.set_append_right _ _ (by rw [a41];omega),a41,show pre.length*3+2-pre.length*3=2 from by omega,List.flatMap_append,List.flatMap_cons]
 simp [L9.cells,hf,ht]
theorem b4b {ps:List Y5}{p:Y5}{o k:Nat}(ho:o=ps.length*2+k):((ps++[p]).flatMap Y5.cells)[o]? =p.cells[k]? :=by
 subst ho
 rw [List.flatMap_append,List.getElem?_append_right (by rw [a40];omega),a40,show ps.length*2+k-ps.length*2=k from by omega]
 simp
theorem b7C {ps:List Y5}{p p':Y5}{o:Nat}(ho:o=ps.length*2+1)(hd:p'.doc=p.doc):((ps++[p]).flatMap Y5.cells).set o (.slice p'.a p'.n p'.c)=(ps++[p']).flatMap Y5.cells:=by
 subst ho
 rw [List.flatMap_append,List.set_append_right _ _ (by rw [a40];omega),a40,show ps.length*2+1-ps.length*2=1 from by omega,List.flatMap_append]
 simp [Y5.cells,hd]
theorem b4c {e:L9}(h:SH w0 K0 M w K L)(hm:e.row TP∈L):e.n=e.posts.length:=by
 rcases h.rowI_cases hm with ⟨_,h1,_,h2⟩ | ⟨g,cur,_,h1,h2,h3,_⟩
 ·have:=a40 e.posts;rw [h2,List.length_nil] at this;omega
 ·rw [a40] at h3;omega
theorem b4e (h:SH w0 K0 M w K L)(hm:a1Z TE a n c lay∈L):n=lay.length:=by
 rcases h.rowI_cases hm with ⟨_,h1,_,h2⟩ | ⟨g,cur,_,h1,h2,h3,_⟩
 ·have:=a41 lay;rw [h2,List.length_nil] at this;omega
 ·rw [a41] at h3;omega
theorem b7A {p:Y5}(h:SH w0 K0 M w K L)(hm:p.item TI∈L):p.n=p.at_.length:=by
 rcases h.rowI_cases hm with ⟨_,h1,_,h2⟩ | ⟨g,cur,_,h1,h2,h3,_⟩
 ·simp at h2;simp [h1,h2]
 ·simp at h3;omega
end
end Go.Fk
