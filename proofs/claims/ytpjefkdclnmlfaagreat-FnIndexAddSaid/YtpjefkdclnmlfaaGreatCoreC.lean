/-
  The state of a call's memory: what is known of old and new blocks; the operations on memory: of no program.
-/
import Derived.Test.YtpjefkdclnmlfaaGreatCoreB
namespace Go.Fk
open Go
structure Item where
 gs:List Nat
 side:Prop
 ok:(Nat→Option Obj)→KMap→Prop
 loc: ∀{H H':Nat→Option Obj} {K K':KMap},(∀b∈gs,H b=H' b∧K b=K' b)→ok H K→ok H' K'
def one (g:Option Nat)(side:Prop)(ok:Option Obj→(Nat→Option Value)→Prop):Item:=
 ⟨g.toList,side,fun H K=>∀b,g=some b→ok (H b) (K b),fun h h1 b hb=>by
  have:=h b (by simp [hb])
  rw [←this.1,←this.2];exact h1 b hb⟩
def obj (g:Nat)(cs:List Value)(T:TypeId)(fr:Nat×Nat:=(0,0)):Item:=
 one (some g) True fun o k=>(o=some (.cells cs.toArray T fr)∧(fr=(0,0)∨cs.length≤fr.1))∧∀i,k i=none
def tail (v:Value)(T:TypeId)(sz:Nat):Item:=
 one v.ownBlock (v= .slice none 0 0∨∃g n cap,v= .slice (some ⟨g,0,none⟩) n cap∧n≤cap∧cap≤maxLen)
 fun o k=>∃g n cap cur,v= .slice (some ⟨g,0,none⟩) n cap∧o=some (.cells cur T (0,0))∧cur.size=cap*sz∧∀i,n*sz≤i→k i=none
def Item.on (it:Item)(w:World)(K:KMap):Prop:=it.side∧it.ok (fun b=>w.heap[b]?) K
class Dr where
 D:Prop
instance:Dr:=⟨False⟩
set_option linter.unusedSectionVars false
variable [dr:Dr]
structure SH (w0:World)(K0:KMap)(M:List Nat)(w:World)(K:KMap)(L:List Item):Prop where
 os:w.os=w0.os
 tape:w.tape=w0.tape
 output:w.output=w0.output
 holds:Holds K w
 le:KLe K0 K
 size:w0.heap.size≤w.heap.size
 old: ∀b,b<w0.heap.size→b∉M→w.heap[b]? =w0.heap[b]?
 oldK: ∀b,b<w0.heap.size→b∉M→K b=K0 b
 items: ∀it∈L,it.on w K
 lt: ∀it∈L,∀b∈it.gs,b<w.heap.size∧(w0.heap.size≤b∨b∈M)
 nodup:(L.flatMap Item.gs).Nodup
 drawn:dr.D→w0.drawn≤w.drawn
theorem sublist_flatMap {L L':List Item}(h:L'.Sublist L):(L'.flatMap Item.gs).Sublist (L.flatMap Item.gs):=by
 induction h with
 | slnil=>exact .slnil
 | cons a _ ih=>rw [List.flatMap_cons];exact List.sublist_append_of_sublist_right ih
 | cons_cons a _ ih=>rw [List.flatMap_cons,List.flatMap_cons];exact(List.Sublist.refl _).append ih
section
variable {w0 w w':World}{K0 K K':KMap}{M:List Nat}{L L':List Item}
theorem SH.start (h:Holds K w):SH w K [] w K []:=
 ⟨rfl,rfl,rfl,h,.refl _,Nat.le_refl _,fun _ _ _=>rfl,fun _ _ _=>rfl,by simp,by simp,by simp,fun _=>Nat.le_refl _⟩
theorem SH.below (h:SH w0 K0 [] w K L):RowKit.Below w0.heap.size w0 w:=⟨h.os,h.tape,h.output,h.size,fun k hk=>h.old k hk (by simp)⟩
theorem SH.perm (h:SH w0 K0 M w K L)(hp:L'.Perm L):SH w0 K0 M w K L':=
 ⟨h.os,h.tape,h.output,h.holds,h.le,h.size,h.old,h.oldK,fun it hi=>h.items it (hp.mem_iff.1 hi),fun it hi=>h.lt it (hp.mem_iff.1 hi),(hp.flatMap_right Item.gs).nodup_iff.2 h.nodup,h.drawn⟩
theorem SH.front {it:Item}{p q:List Item}(h:SH w0 K0 M w K (p++it::q)):SH w0 K0 M w K (it::(p++q)):=h.perm List.perm_middle.symm
theorem SH.drop {it:Item}(h:SH w0 K0 M w K (it::L)):SH w0 K0 M w K L:=
 ⟨h.os,h.tape,h.output,h.holds,h.le,h.size,h.old,h.oldK,fun it hi=>h.items it (List.mem_cons_of_mem _ hi),fun it hi=>h.lt it (List.mem_cons_of_mem _ hi),by
  have:=h.nodup
  rw [List.flatMap_cons,List.nodup_append] at this
  exact this.2.1,h.drawn⟩
theorem SH.sublist (h:SH w0 K0 M w K L)(hs:L'.Sublist L):SH w0 K0 M w K L':=
 ⟨h.os,h.tape,h.output,h.holds,h.le,h.size,h.old,h.oldK,fun it hi=>h.items it (hs.subset hi),fun it hi=>h.lt it (hs.subset hi),(sublist_flatMap hs).nodup h.nodup,h.drawn⟩
theorem SH.nil (h:SH w0 K0 M w K L)(T:TypeId)(sz:Nat):SH w0 K0 M w K (tail (.slice none 0 0) T sz::L):=
 ⟨h.os,h.tape,h.output,h.holds,h.le,h.size,h.old,h.oldK,by
  intro it hi
  rcases List.mem_cons.1 hi with rfl | hi
  ·exact⟨.inl rfl,fun b hb=>by simp [Value.ownBlock] at hb⟩
  ·exact h.items it hi,by
  intro it hi b hb
  rcases List.mem_cons.1 hi with rfl | hi
  ·simp [tail,one,Value.ownBlock] at hb
  ·exact h.lt it hi b hb,by
  rw [List.flatMap_cons];exact h.nodup,h.drawn⟩
theorem SH.drew (h:SH w0 K0 M w K L):SH w0 K0 M w.drew K L:=⟨h.os,h.tape,h.output,h.holds,h.le,h.size,h.old,h.oldK,h.items,h.lt,h.nodup,fun d=>Nat.le_succ_of_le (h.drawn d)⟩
theorem SH.drewN (h:SH w0 K0 M w K L)(n:Nat):SH w0 K0 M (w.drewN n) K L:=⟨h.os,h.tape,h.output,h.holds,h.le,h.size,h.old,h.oldK,h.items,h.lt,h.nodup,fun d=>Nat.le_trans (h.drawn d) (Nat.le_add_right _ _)⟩
theorem SH.ge_none (h:SH w0 K0 M w K L){b:Nat}(hb:w.heap.size≤b)(o:Nat):K b o=none:=by
 cases e:K b o with
 | none=>rfl
 | some v=>have:=h.holds.lt e;omega
theorem SH.step {g:Nat}{side:Prop}{ok:Option Obj→(Nat→Option Value)→Prop}(h:SH w0 K0 M w K L)(hos:w'.os=w.os)(htape:w'.tape=w.tape)(hout:w'.output=w.output)
  (hsize:w.heap.size≤w'.heap.size)(hg:w'.heap.size≤w.heap.size+1)(hother: ∀b,b<w.heap.size→b≠g→w'.heap[b]? =w.heap[b]?)(hgt:g<w'.heap.size)
  (hown:w0.heap.size≤g∨g∈M)(hnew: ∀it∈L,g∉it.gs)
  (hK: ∀b,b≠g→K' b=K b)(hKg: ∀o v,K g o=some v→K' g o=some v)(hKh: ∀o v,K' g o=some v→w'.cell? ⟨g,o,none⟩=some v)
  (hit:(some g:Option Nat)=some g)(hon:side∧ok (w'.heap[g]?) (K' g))(hdr:w.drawn≤w'.drawn:=by exact Nat.le_refl _):SH w0 K0 M w' K' (one (some g) side ok::L) where
 drawn:=fun d=>Nat.le_trans (h.drawn d) hdr
 os:=hos.trans h.os
 tape:=htape.trans h.tape
 output:=hout.trans h.output
 holds:=by
  intro b o v e
  by_cases hb:b=g
  ·subst hb;exact hKh o v e
  ·rw [hK b hb] at e
   have hlt:=h.holds.lt e
   rw [World.cell?_of_block (w:=w) (a:=⟨b,o,none⟩) (hother b hlt hb)]
   exact h.holds b o v e
 le:=by
  intro b o v e
  have:=h.le b o v e
  by_cases hb:b=g
  ·subst hb;exact hKg o v this
  ·rw [hK b hb];exact this
 size:=Nat.le_trans h.size hsize
 old:=by
  intro b hb hm
  have hne:b≠g:=by
   rintro rfl
   rcases hown with h1 | h1
   ·omega
   ·exact hm h1
  rw [hother b (by have:=h.size;omega) hne]
  exact h.old b hb hm
 oldK:=by
  intro b hb hm
  have hne:b≠g:=by
   rintro rfl
   rcases hown with h1 | h1
   ·omega
   ·exact hm h1
  rw [hK b hne]
  exact h.oldK b hb hm
 items:=by
  intro i hi
  rcases List.mem_cons.1 hi with rfl | hi
  ·exact⟨hon.1,fun b hb=>by cases hb;exact hon.2⟩
  ·have h1:=h.items i hi
   refine⟨h1.1,i.loc (fun b hb=>?_) h1.2⟩
   have hne:b≠g:=fun e=>hnew i hi (e▸hb)
   exact⟨(hother b (h.lt i hi b hb).1 hne).symm,(hK b hne).symm⟩
 lt:=by
  intro i hi b hb
  rcases List.mem_cons.1 hi with rfl | hi
  ·have:b=g:=by simpa [one] using hb
   subst this;exact⟨hgt,hown⟩
  ·have:=h.lt i hi b hb
   exact⟨by omega,this.2⟩
 nodup:=by
  rw [List.flatMap_cons,List.nodup_append]
  refine⟨by simp [one],h.nodup,fun b hb b' hb' e=>?_⟩
  have hbg:b=g:=by simpa [one] using hb
  obtain⟨i,hi,e2⟩:=List.mem_flatMap.1 hb'
  exact hnew i hi (by rw [←hbg,e];exact e2)
theorem SH.apart {g:Nat}{side:Prop}{ok:Option Obj→(Nat→Option Value)→Prop}(h:SH w0 K0 M w K (one (some g) side ok::L)): ∀it∈L,g∉it.gs:=fun it hi e=>by
 have hnd:=h.nodup
 rw [List.flatMap_cons,List.nodup_append] at hnd
 exact hnd.2.2 g (by simp [one]) g (List.mem_flatMap.2 ⟨it,hi,e⟩) rfl
theorem SH.own {g:Nat}{side:Prop}{ok:Option Obj→(Nat→Option Value)→Prop}(h:SH w0 K0 M w K (one (some g) side ok::L)):g<w.heap.size∧(w0.heap.size≤g∨g∈M):=
 h.lt _ (List.mem_cons_self ..) g (by simp [one])
end
end Go.Fk
