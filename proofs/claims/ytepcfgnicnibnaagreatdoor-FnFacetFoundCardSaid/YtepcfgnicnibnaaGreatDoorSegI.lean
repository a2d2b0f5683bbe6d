/-
  An index's entries as rows of the call's own: the entries' row, each entry's row of posts, each post's row of places. Of no program.
-/
import Derived.Test.YtepcfgnicnibnaaGreatDoorTypes
import Derived.Test.YtepcfgnicnibnaaGreatDoorCoreSQ
namespace Go.Fk
open Go
set_option linter.unusedSectionVars false
variable [dr:Dr]
def c01 (k:Nat):Ty (List Value) where
 size:=k
 agg:=true
 rel:=fun _ v x=>v= .agg x.toArray∧x.length=k∧∀c∈x,c.oneCell'=true
 mono:=fun _ _ _ h=>h
 shape:=by rintro K v x ⟨rfl,_,_⟩;exact .inl ⟨rfl,_,rfl⟩
 size_eq:=by rintro K v x ⟨rfl,h,_⟩;simpa [Value.cells] using h
 ones:=by rintro K v x ⟨rfl,_,h⟩;simpa [Value.cells] using h
theorem b9C {K:F0}{cs:List Value}{k:Nat}{b o c:Nat}(h:b7 (c01 k) K (some ⟨b,o,none⟩) 1 c [cs]):E9 K b o cs:=by
 obtain⟨_,h2,_,h4⟩:=h
 obtain⟨b',o',e,h5⟩:=h4 (by omega)
 injection e with e
 injection e with e1 e2 _
 subst e1 e2
 obtain⟨u,⟨rfl,_⟩,hk⟩:=h5 0 cs rfl
 rw [Nat.zero_mul,Nat.add_zero] at hk
 exact hk
theorem b7a {K:F0}{cs:List Value}{k:Nat}{a:Option Addr}{c:Nat}(h:b7 (c01 k) K a 1 c [cs]): ∃b o,a=some ⟨b,o,none⟩:=by
 obtain⟨_,h2,_,h4⟩:=h
 obtain⟨b,o,e,_⟩:=h4 (by omega)
 exact⟨b,o,e⟩
theorem c3w {K:F0}{z:Int}{b o c:Nat}(h:b7 C9 K (some ⟨b,o,none⟩) 1 c [z]):E9 K b o [.int .i64 z]:=by
 obtain⟨_,h2,_,h4⟩:=h
 obtain⟨b',o',e,h5⟩:=h4 (by omega)
 injection e with e
 injection e with e1 e2 _
 subst e1 e2
 obtain⟨u,⟨rfl,_⟩,hk⟩:=h5 0 z rfl
 rw [Nat.zero_mul,Nat.add_zero] at hk
 exact hk
theorem c3R {α:Type}{t:Ty α}{K:F0}{xs:List α}{a:Option Addr}{n c:Nat}(h:b7 t K a (n+1) c xs): ∃b o,a=some ⟨b,o,none⟩:=by
 obtain⟨_,h2,_,h4⟩:=h
 obtain⟨b,o,e,_⟩:=h4 (by omega)
 exact⟨b,o,e⟩
theorem b7i {α β:Type}{f:α→β}{xs:List α}{k:Int}{y:β}(h:u0 (xs.map f) k=some y): ∃x,u0 xs k=some x∧f x=y:=by
 unfold u0 at h ⊢
 split at h
 ·rename_i h0
  rw [if_pos h0]
  rw [List.getElem?_map] at h
  exact Option.map_eq_some_iff.1 h
 ·cases h
theorem b5X {α:Type}{xs:List α}{x:α}{k:Int}(hk:k=xs.length):u0 (xs++[x]) k=some x:=by
 subst hk
 unfold u0
 rw [if_pos (by omega)]
 simp
theorem b2H {n:Nat}(h:n≤maxLen):A1 ((n:Int)-1)=(n:Int)-1:=B9 ⟨by omega,by simp [maxLen] at h;omega⟩
theorem c3S {n:Nat}(h:n≤maxLen):A1 (A1 ((n:Int)-1)+1)=(n:Int):=by
 rw [b2H h,show (n:Int)-1+1=n from by omega]
 exact B9 ⟨by omega,by simp [maxLen] at h;omega⟩
structure V2 where
 doc:Int
 at_:List Int
 a:Option Addr
 n:Nat
 c:Nat
structure J1 where
 field:q9
 term:q9
 posts:List V2
 a:Option Addr
 n:Nat
 c:Nat
def V2.x (p:V2):G7:=⟨p.doc,p.at_⟩
def J1.x (e:J1):B1:=⟨e.field,e.term,e.posts.map V2.x⟩
def V2.cells (p:V2):List Value:=[.int .i64 p.doc,.slice p.a p.n p.c]
def J1.cells (e:J1):List Value:=[sv e.field,sv e.term,.slice e.a e.n e.c]
def b5C (z:Int):Value:=.int .i64 z
def V2.item (TI:TypeId)(p:V2):E5:=W4 (.slice p.a p.n p.c) (p.at_.map b5C) TI 1
def J1.row (TP:TypeId)(e:J1):E5:=W4 (.slice e.a e.n e.c) (e.posts.flatMap V2.cells) TP 2
def J1.items (TP TI:TypeId)(e:J1):List E5:=e.row TP::e.posts.map (V2.item TI)
def a1h (TE:TypeId)(a:Option Addr)(n c:Nat)(lay:List J1):E5:=W4 (.slice a n c) (lay.flatMap J1.cells) TE 3
def Q0 (TE TP TI:TypeId)(a:Option Addr)(n c:Nat)(lay:List J1):List E5:=a1h TE a n c lay::lay.flatMap (J1.items TP TI)
def V2.ok (p:V2):Prop:=i7 p.doc∧∀z∈p.at_,i7 z
def J1.ok (e:J1):Prop:=e.field.length≤maxLen∧e.term.length≤maxLen∧∀p∈e.posts,p.ok
def a65 (lay:List J1)(xs:List B1):Prop:=(∀e∈lay,e.ok)∧lay.map J1.x=xs
section
variable {w w0:World}{K K0:F0}{M:List Nat}{L:List E5}{TE TP TI:TypeId}{gs:List Nat}{a:Option Addr}{n c:Nat}{lay:List J1}{xs:List B1}
theorem b4J: ∀zs:List Int,zs.flatMap (fun z=>[b5C z])=zs.map b5C
 | []=>rfl
 | z::r=>by rw [List.flatMap_cons,b4J r];rfl
theorem b7k (zs:List Int)(h: ∀z∈zs,i7 z):D5 true C9 K (zs.map b5C) zs:=by
 have:=D5.flatMap (K:=K) (t:=C9) (cells:=fun z=>[b5C z]) (f:=id) (ps:=zs) fun z hz=>⟨b5C z,⟨rfl,h z hz⟩,rfl⟩
 rwa [List.map_id,b4J] at this
theorem b7m {ps:List V2}(h:SH w0 K0 M w K L)(hm: ∀p∈ps,p.item TI∈L)(hg: ∀p∈ps,∀b∈(p.item TI).gs,b∈gs)(ho: ∀p∈ps,p.ok):D5 true Z0 (b0W K w gs) (ps.flatMap V2.cells) (ps.map V2.x):=by
 refine D5.flatMap fun p hp=>⟨.agg #[.int .i64 p.doc,.slice p.a p.n p.c],⟨p.a,p.n,p.c,rfl,(ho p hp).1,?_⟩,rfl⟩
 exact(b0X (t:=C9) h (hm p hp) (hg p hp) (by decide) (b7k _ (ho p hp).2)).1
theorem a97 (h:SH w0 K0 M w K L)(hm: ∀it∈lay.flatMap (J1.items TP TI),it∈L)(hg: ∀it∈lay.flatMap (J1.items TP TI),∀b∈it.gs,b∈gs)(hl:a65 lay xs):D5 true B8 (b0W K w gs) (lay.flatMap J1.cells) xs:=by
 obtain⟨ho,rfl⟩:=hl
 refine D5.flatMap fun e he=>⟨.agg #[sv e.field,sv e.term,.slice e.a e.n e.c],⟨e.a,e.n,e.c,rfl,(ho e he).1,(ho e he).2.1,?_⟩,rfl⟩
 have h1: ∀it∈e.items TP TI,it∈lay.flatMap (J1.items TP TI):=fun it hi=>List.mem_flatMap.2 ⟨e,he,hi⟩
 refine(b0X (t:=Z0) h (hm _ (h1 _ (List.mem_cons_self ..))) (hg _ (h1 _ (List.mem_cons_self ..))) (by decide) (b7m (TI:=TI) h ?_ ?_ (ho e he).2.2)).1
 ·exact fun p hp=>hm _ (h1 _ (List.mem_cons_of_mem _ (List.mem_map.2 ⟨p,hp,rfl⟩)))
 ·exact fun p hp=>hg _ (h1 _ (List.mem_cons_of_mem _ (List.mem_map.2 ⟨p,hp,rfl⟩)))
theorem c2z (h:SH w0 K0 M w K L)(hm: ∀it∈Q0 TE TP TI a n c lay,it∈L)(hg: ∀it∈Q0 TE TP TI a n c lay,∀b∈it.gs,b∈gs)(hl:a65 lay xs):b7 B8 (b0W K w gs) a n c xs∧n=xs.length:=
 b0X (t:=B8) h (hm _ (List.mem_cons_self ..)) (hg _ (List.mem_cons_self ..)) (by decide) (a97 (TP:=TP) (TI:=TI) h (fun it hi=>hm it (List.mem_cons_of_mem _ hi)) (fun it hi=>hg it (List.mem_cons_of_mem _ hi)) hl)
theorem c3P (h:SH w0 K0 M w K (a7Y (Q0 TE TP TI a n c lay)::L))(hl:a65 lay xs):
  ∃K' cs,I9 K K'∧D5 true B8 K' cs xs∧n=xs.length∧SH w0 K0 M w K' (W4 (.slice a n c) cs TE 3::L):=by
 have h1:=h.unpack
 have h2:SH w0 K0 M w K (lay.flatMap (J1.items TP TI)++(a1h TE a n c lay::L)):=h1.perm (List.perm_middle (l₁:=lay.flatMap (J1.items TP TI)))
 have hr:D5 true B8 (b0W K w ((lay.flatMap (J1.items TP TI)).flatMap E5.gs)) (lay.flatMap J1.cells) xs:=
  a97 (TP:=TP) (TI:=TI) h2 (fun it hi=>List.mem_append_left _ hi) (fun it hi b hb=>List.mem_flatMap.2 ⟨it,hi,hb⟩) hl
 refine⟨_,_,b3G h.holds,hr,?_,h2.see⟩
 have hcl:=hr.1.2 rfl
 rcases h2.rowI_cases (U:=TE) (sz:=3) (List.mem_append_right _ (List.mem_cons_self ..)) with ⟨_,h3,_,h4⟩ | ⟨g,cur,_,h3,h4,h5,_⟩
 ·rw [h4] at hcl;simp [B8] at hcl;omega
 ·rw [h5] at hcl;simp [B8] at hcl;omega
theorem c0G {a:Option Addr}{c:Nat}(h:SH w0 K0 M w K (tail (.slice a 0 c) TE 3::L)):SH w0 K0 M w K (a7Y (Q0 TE TP TI a 0 c [])::L):=by
 refine SH.packUp (ls:=Q0 TE TP TI a 0 c []) (?_:SH w0 K0 M w K (W4 (.slice a 0 c) [] TE 3::L))
 have hi:=h.items _ (List.mem_cons_self ..)
 refine⟨h.os,h.tape,h.output,h.holds,h.le,h.size,h.old,h.oldK,fun it hit=>?_,fun it hit b hb=>?_,h.nodup,h.drawn⟩
 ·rcases List.mem_cons.1 hit with rfl | hit
  ·refine⟨?_,fun b hb=>?_⟩
   ·rcases hi.1 with h1 | ⟨g,n,cap,h1,h2,h3⟩
    ·exact .inl ⟨h1,rfl⟩
    ·injection h1 with e1 e2 e3
     subst e1 e2 e3
     exact .inr ⟨g,0,c,rfl,h2,h3,by simp⟩
   ·obtain⟨g,n,cap,cur,h1,h2,h3,h4⟩:=hi.2 b hb
    injection h1 with e1 e2 e3
    subst e1 e2 e3
    exact⟨⟨g,0,c,cur,rfl,h2,h3,by simp⟩,fun i=>h4 i (by omega)⟩
  ·exact h.items it (List.mem_cons_of_mem _ hit)
 ·rcases List.mem_cons.1 hit with rfl | hit
  ·exact h.lt _ (List.mem_cons_self ..) b hb
  ·exact h.lt it (List.mem_cons_of_mem _ hit) b hb
theorem b40 {pre post:List J1}{e:J1}:(Q0 TE TP TI a n c (pre++e::post)).Perm (a1h TE a n c (pre++e::post)::e.row TP::(e.posts.map (V2.item TI)++(pre.flatMap (J1.items TP TI)++post.flatMap (J1.items TP TI)))):=by
 refine List.Perm.cons _ ?_
 rw [List.flatMap_append,List.flatMap_cons]
 refine(List.perm_append_comm_assoc _ _ _).trans ?_
 simp only [J1.items,List.cons_append]
 exact List.Perm.refl _
theorem b3u {ps:List V2}{p:V2}{R:List E5}:((ps++[p]).map (V2.item TI)++R).Perm (p.item TI::(ps.map (V2.item TI)++R)):=by
 rw [List.map_append,List.append_assoc]
 exact List.perm_middle
theorem c2A {α:Type}{xs:List α}{k:Int}{x:α}(h:u0 xs k=some x): ∃pre post,xs=pre++x::post∧pre.length=k.toNat∧0≤k:=by
 obtain⟨h0,h1,h2⟩:=a2w h
 have hl:=(i4.1 h2)
 obtain⟨hlt,rfl⟩:=hl
 exact⟨xs.take k.toNat,xs.drop (k.toNat+1),by rw [List.getElem_cons_drop,List.take_append_drop],by rw [List.length_take];omega,h0⟩
theorem a4k (pre:List J1):(pre.flatMap J1.cells).length=pre.length*3:=by
 induction pre with
 | nil=>rfl
 | cons e r ih=>rw [List.flatMap_cons,n9,ih];simp [J1.cells];omega
theorem a4j (pre:List V2):(pre.flatMap V2.cells).length=pre.length*2:=by
 induction pre with
 | nil=>rfl
 | cons e r ih=>rw [List.flatMap_cons,n9,ih];simp [V2.cells];omega
theorem b3I {pre post:List J1}{e:J1}{o:Nat}(ho:o=pre.length*3+2):((pre++e::post).flatMap J1.cells)[o]? =some (.slice e.a e.n e.c):=by
 subst ho
 rw [List.flatMap_append,List.flatMap_cons,List.getElem?_append_right (by rw [a4k];omega),a4k,show pre.length*3+2-pre.length*3=2 from by omega]
 rfl
theorem b7j {pre post:List J1}{e e':J1}{o:Nat}(ho:o=pre.length*3+2)(hf:e'.field=e.field)(ht:e'.term=e.term):((pre++e::post).flatMap J1.cells).set o (.slice e'.a e'.n e'.c)=(pre++e'::post).flatMap J1.cells:=by
 subst ho
 rw [List.flatMap_append,List.flatMap_cons,List.set_append_right _ _ (by rw [a4k];omega),a4k,show pre.length*3+2-pre.length*3=2 from by omega,List.flatMap_append,List.flatMap_cons]
 simp [J1.cells,hf,ht]
theorem b3J {ps:List V2}{p:V2}{o k:Nat}(ho:o=ps.length*2+k):((ps++[p]).flatMap V2.cells)[o]? =p.cells[k]? :=by
 subst ho
 rw [List.flatMap_append,List.getElem?_append_right (by rw [a4j];omega),a4j,show ps.length*2+k-ps.length*2=k from by omega]
 simp
theorem b7n {ps:List V2}{p p':V2}{o:Nat}(ho:o=ps.length*2+1)(hd:p'.doc=p.doc):((ps++[p]).flatMap V2.cells).set o (.slice p'.a p'.n p'.c)=(ps++[p']).flatMap V2.cells:=by
 subst ho
 rw [List.flatMap_append,List.set_append_right _ _ (by rw [a4j];omega),a4j,show ps.length*2+1-ps.length*2=1 from by omega,List.flatMap_append]
 simp [V2.cells,hd]
theorem b3K {e:J1}(h:SH w0 K0 M w K L)(hm:e.row TP∈L):e.n=e.posts.length:=by
 rcases h.rowI_cases hm with ⟨_,h1,_,h2⟩ | ⟨g,cur,_,h1,h2,h3,_⟩
 ·have:=a4j e.posts;rw [h2,List.length_nil] at this;omega
 ·rw [a4j] at h3;omega
theorem b3L (h:SH w0 K0 M w K L)(hm:a1h TE a n c lay∈L):n=lay.length:=by
 rcases h.rowI_cases hm with ⟨_,h1,_,h2⟩ | ⟨g,cur,_,h1,h2,h3,_⟩
 ·have:=a4k lay;rw [h2,List.length_nil] at this;omega
 ·rw [a4k] at h3;omega
theorem b7l {p:V2}(h:SH w0 K0 M w K L)(hm:p.item TI∈L):p.n=p.at_.length:=by
 rcases h.rowI_cases hm with ⟨_,h1,_,h2⟩ | ⟨g,cur,_,h1,h2,h3,_⟩
 ·simp at h2;simp [h1,h2]
 ·simp at h3;omega
end
end Go.Fk
