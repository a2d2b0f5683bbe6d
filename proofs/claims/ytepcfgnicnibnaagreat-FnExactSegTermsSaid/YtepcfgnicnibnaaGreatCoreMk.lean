/-
  Blocks that the call has made and owns whole: data that lie in them alone; marks that are written into them. Of no program.
-/
import Derived.Test.YtepcfgnicnibnaaGreatCoreL
namespace Go.Fk
open Go
set_option linter.unusedSectionVars false
variable [dr:Dr]
section
variable {P:Program}{ops:Array Oper}{Q:Exit→Act→World→Prop}{N:Nat}{E:Env}{w w0 w':World}{K K0 K':KMap}{M B B':List Nat}{L L':List Item}
variable {x y:Operand}{T U:TypeId}{size bytes:Nat}{zero:Value}{agg:Bool}{rest:List Oper}{ty:TypeId}{pos:String}{af:Array Edge}{gd:Option (Nat×Bool)}
def KMap.only (K:KMap)(B:List Nat):KMap:=fun b o=>if b∈B then K b o else none
def KMap.but (K:KMap)(B:List Nat):KMap:=fun b o=>if b∈B then none else K b o
theorem only_at {b:Nat}(h:b∈B)(o:Nat):K.only B b o=K b o:=if_pos h
theorem but_in {b:Nat}(h:b∈B)(o:Nat):K.but B b o=none:=if_pos h
theorem but_at {b:Nat}(h:b∉B)(o:Nat):K.but B b o=K b o:=if_neg h
theorem only_some {b o:Nat}{v:Value}(e:K.only B b o=some v):b∈B∧K b o=some v:=by
 unfold KMap.only at e
 split at e
 ·rename_i hb;exact⟨hb,e⟩
 ·cases e
theorem only_le:KLe (K.only B) K:=fun b o v e=>by
 unfold KMap.only at e
 split at e
 ·exact e
 ·cases e
theorem but_le:KLe (K.but B) K:=fun b o v e=>by
 unfold KMap.but at e
 split at e
 ·cases e
 ·exact e
theorem only_mono (h:KLe K K')(hB: ∀b∈B,b∈B'):KLe (K.only B) (K'.only B'):=fun b o v e=>by
 unfold KMap.only at e ⊢
 split at e
 ·rename_i hb
  rw [if_pos (hB b hb)];exact h b o v e
 ·cases e
theorem le_but (hl:KLe K0 K)(hh:Holds K0 w0)(hB: ∀b∈B,w0.heap.size≤b):KLe K0 (K.but B):=fun b o v e=>by
 have hlt:=hh.lt e
 have hn:b∉B:=fun hb=>by have:=hB b hb;omega
 rw [but_at hn];exact hl b o v e
theorem only_but2 {C:List Nat}(hd: ∀b∈C,b∉B):KLe (K.only C) ((K.but B).only C):=fun b o v e=>by
 obtain⟨hb,e⟩:=only_some e
 rw [only_at hb,but_at (hd b hb)];exact e
def Ty.fix {α:Type}(t:Ty α)(Kx:KMap):Ty α where
 size:=t.size
 agg:=t.agg
 rel:=fun _ v x=>t.rel Kx v x
 mono:=fun _ _ _ h=>h
 shape:=t.shape
 size_eq:=t.size_eq
 ones:=t.ones
theorem SliceAt.unfix {α:Type}{t:Ty α}{Kx:KMap}{a:Option Addr}{n c:Nat}{xs:List α}(h:SliceAt (t.fix Kx) K a n c xs)(hx:KLe Kx (K.only B))(ha:0<c→∀b o,a=some ⟨b,o,none⟩→b∈B):SliceAt t (K.only B) a n c xs:=
 ⟨h.1,h.2.1,h.2.2.1,fun hc=>let ⟨b,o,e1,h5⟩:=h.2.2.2 hc;⟨b,o,e1,fun i x hi=>let ⟨u,r,k⟩:=h5 i x hi;⟨u,t.mono hx r,fun j d e=>by rw [only_at (ha hc b o e1)];exact k j d e⟩⟩⟩
def Ty.flat {α:Type}(t:Ty α):Prop:=∀{K K':KMap} {v:Value} {x:α},t.rel K v x→t.rel K' v x
theorem SliceAt.only_flat {α:Type}{t:Ty α}(hf:t.flat){a:Option Addr}{n c:Nat}{xs:List α}(h:SliceAt t K a n c xs)(ha:0<c→∀b o,a=some ⟨b,o,none⟩→b∈B):SliceAt t (K.only B) a n c xs:=
 ⟨h.1,h.2.1,h.2.2.1,fun hc=>let ⟨b,o,e1,h5⟩:=h.2.2.2 hc;⟨b,o,e1,fun i x hi=>let ⟨u,r,k⟩:=h5 i x hi;⟨u,hf r,fun j d e=>by rw [only_at (ha hc b o e1)];exact k j d e⟩⟩⟩
def bag (B:List Nat):Item:=⟨B,True,fun H _=>∀b∈B,∃cur T,H b=some (.cells cur T (0,0)),fun h hok b hb=>by rw [←(h b hb).1];exact hok b hb⟩
theorem SH.bag0 (h:SH w0 K0 M w K L):SH w0 K0 M w K (bag []::L):=
 ⟨h.os,h.tape,h.output,h.holds,h.le,h.size,h.old,h.oldK,by
  intro it hi
  rcases List.mem_cons.1 hi with rfl | hi
  ·exact⟨trivial,fun b hb=>by cases hb⟩
  ·exact h.items it hi,by
  intro it hi b hb
  rcases List.mem_cons.1 hi with rfl | hi
  ·cases hb
  ·exact h.lt it hi b hb,by
  rw [List.flatMap_cons];exact h.nodup,h.drawn⟩
theorem SH.bagJoin (h:SH w0 K0 M w K (bag B::bag B'::L)):SH w0 K0 M w K (bag (B++B')::L):=
 ⟨h.os,h.tape,h.output,h.holds,h.le,h.size,h.old,h.oldK,by
  intro it hi
  rcases List.mem_cons.1 hi with rfl | hi
  ·refine⟨trivial,fun b hb=>?_⟩
   rcases List.mem_append.1 hb with hb | hb
   ·exact(h.items _ (.head _)).2 b hb
   ·exact(h.items _ (.tail _ (.head _))).2 b hb
  ·exact h.items it (.tail _ (.tail _ hi)),by
  intro it hi b hb
  rcases List.mem_cons.1 hi with rfl | hi
  ·rcases List.mem_append.1 hb with hb | hb
   ·exact h.lt _ (.head _) b hb
   ·exact h.lt _ (.tail _ (.head _)) b hb
  ·exact h.lt it (.tail _ (.tail _ hi)) b hb,by
  have:=h.nodup
  rw [List.flatMap_cons,List.flatMap_cons,←List.append_assoc] at this
  rw [List.flatMap_cons];exact this,h.drawn⟩
theorem SH.bagTail {a:Option Addr}{n c sz:Nat}(h:SH w0 K0 M w K (tail (.slice a n c) T sz::L)): ∃B,SH w0 K0 M w K (bag B::L)∧(0<c→∀b o,a=some ⟨b,o,none⟩→b∈B):=by
 refine⟨(tail (.slice a n c) T sz).gs,⟨h.os,h.tape,h.output,h.holds,h.le,h.size,h.old,h.oldK,?_,?_,h.nodup,h.drawn⟩,fun hc b o ha=>?_⟩
 ·intro it hi
  rcases List.mem_cons.1 hi with rfl | hi
  ·refine⟨trivial,fun b hb=>?_⟩
   have h1:=(h.items _ (.head _)).2 b (by simpa [tail,one] using hb)
   obtain⟨g,n',cap,cur,_,e,_⟩:=h1
   exact⟨cur,T,e⟩
  ·exact h.items it (.tail _ hi)
 ·intro it hi b hb
  rcases List.mem_cons.1 hi with rfl | hi
  ·exact h.lt _ (.head _) b hb
  ·exact h.lt it (.tail _ hi) b hb
 ·have hs:=(h.items _ (.head _)).1
  rcases hs with hs | ⟨g,n',cap,hs,_⟩
  ·cases hs;omega
  ·cases hs
   cases ha
   simp [tail,one,Value.ownBlock]
theorem SH.bag_new (h:SH w0 K0 [] w K (bag B::L)): ∀b∈B,w0.heap.size≤b∧b<w.heap.size:=fun b hb=>by
 have:=h.lt _ (.head _) b hb
 exact⟨this.2.resolve_right (by simp),this.1⟩
theorem SH.bag_off (h:SH w0 K0 M w K (bag B::L)): ∀it∈L,∀b∈it.gs,b∉B:=fun it hi b hb hB=>by
 have hnd:=h.nodup
 rw [List.flatMap_cons,List.nodup_append] at hnd
 exact hnd.2.2 b hB b (List.mem_flatMap.2 ⟨it,hi,hb⟩) rfl
theorem SH.flat_but {α:Type}{t:Ty α}(hf:t.flat){a:Option Addr}{n c sz:Nat}{xs:List α}(h:SH w0 K0 M w K (bag B::tail (.slice a n c) T sz::L))(hs:SliceAt t K a n c xs):SliceAt t (K.but B) a n c xs:=
 ⟨hs.1,hs.2.1,hs.2.2.1,fun hc=>let ⟨b,o,e1,h5⟩:=hs.2.2.2 hc;⟨b,o,e1,fun i x hi=>let ⟨u,r,k⟩:=h5 i x hi;⟨u,hf r,fun j d e=>by
  have hn:b∉B:=by
   refine h.bag_off _ (.head _) b ?_
   have hs:=(h.items _ (.tail _ (.head _))).1
   rcases hs with hs | ⟨g,n',cap,hs,_⟩
   ·cases hs;omega
   ·cases hs
    cases e1
    simp [tail,one,Value.ownBlock]
  rw [but_at hn];exact k j d e⟩⟩⟩
def hdrV:Value→Bool
 | .slice _ _ _=>true
 | _=>false
def mkI (B:List Nat)(KM:KMap):Item:=⟨B,True,fun H K=>∀b∈B,(∀o,K b o=none)∧∃cur T,H b=some (.cells cur T (0,0))∧∀o v,KM b o=some v→∃u,cur[o]? =some u∧(hdrV v=true→u=v),
 fun h hok b hb=>by
  obtain⟨h1,cur,T,h2,h3⟩:=hok b hb
  exact⟨fun o=>by rw [←(h b hb).2];exact h1 o,cur,T,by rw [←(h b hb).1];exact h2,h3⟩⟩
theorem SH.toMk (h0:Holds K0 w0)(h:SH w0 K0 [] w K (bag B::L)):SH w0 K0 [] w (K.but B) (mkI B K::L) where
 os:=h.os
 tape:=h.tape
 output:=h.output
 holds:=fun b o v e=>h.holds b o v (but_le b o v e)
 le:=le_but h.le h0 fun b hb=>(h.bag_new b hb).1
 size:=h.size
 old:=h.old
 oldK:=fun b hb hm=>by
  funext o
  rw [but_at (fun hB=>by have:=(h.bag_new b hB).1;omega),h.oldK b hb hm]
 items:=by
  intro it hi
  rcases List.mem_cons.1 hi with rfl | hi
  ·refine⟨trivial,fun b hb=>⟨fun o=>but_in hb o,?_⟩⟩
   obtain⟨cur,T,e⟩:=(h.items _ (.head _)).2 b hb
   refine⟨cur,T,e,fun o v hk=>⟨v,?_,fun _=>rfl⟩⟩
   have:=h.holds b o v hk
   have e':w.heap[b]? =some (.cells cur T (0,0)):=e
   simpa [World.cell?,e'] using this
  ·have h1:=h.items it (.tail _ hi)
   exact⟨h1.1,it.loc (fun b hb=>⟨rfl,funext fun o=>(but_at (h.bag_off it hi b hb) o).symm⟩) h1.2⟩
 lt:=by
  intro it hi b hb
  rcases List.mem_cons.1 hi with rfl | hi
  ·exact h.lt _ (.head _) b hb
  ·exact h.lt it (.tail _ hi) b hb
 nodup:=h.nodup
 drawn:=h.drawn
variable {KM:KMap}
theorem mk_load {b o n c:Nat}{a:Option Addr}(hT:TF P T size false zero bytes)(hx:ev E x=some (.pointer (some ⟨b,o,none⟩)))(hS:SH w0 K0 M w K (mkI B KM::L))(hk:KM.only B b o=some (.slice a n c)):RV P E w (.load T x) (.slice a n c):=
 have hb:=(only_some hk).1
 have hk:=(only_some hk).2
 rv_load hT hx (cs:=[.slice a n c]) (fun j d e=>by
  cases j with
  | zero=>
   simp at e;subst e
   obtain⟨_,cur,U,e,h3⟩:=(hS.items _ (.head _)).2 b hb
   obtain⟨u,hu,hv⟩:=h3 o _ hk
   have hv':=hv rfl
   subst hv'
   have e':w.heap[b]? =some (.cells cur U (0,0)):=e
   simpa [World.cell?,e'] using hu
  | succ j=>simp at e) (.inr ⟨rfl,rfl⟩)
theorem mk_store {b o:Nat}{v v0:Value}(hw:Wanted ops N E gd)(hT:TF P T 1 false zero bytes)(hx:ev E x=some (.pointer (some ⟨b,o,none⟩)))(hy:ev E y=some v)(hone:v.oneCell'=true)(hS:SH w0 K0 M w K (mkI B KM::L))
  (hk:KM.only B b o=some v0)(hh:hdrV v0=false)(h: ∀w',SH w0 K0 M w' K (mkI B KM::L)→WL P ops Q N rest E w'):WL P ops Q N (⟨none,.store T x y,ty,pos,af,gd⟩::rest) E w:=by
 obtain⟨hb,hk⟩:=only_some hk
 obtain⟨hKn,cur,U,e,h3⟩:=(hS.items _ (.head _)).2 b hb
 have e':w.heap[b]? =some (.cells cur U (0,0)):=e
 obtain⟨u0,hu0,_⟩:=h3 o v0 hk
 have ho:o<cur.size:=(Array.getElem?_eq_some_iff.1 hu0).1
 have hc:=cells_one hone
 have hst:=run_storeCells_obj (P:=P) b o U (0,0) [v] 0 cur w e' (.inl rfl) (by simp;omega) (by simpa using hone)
 have hw':w.setRow b (cur.toList.take (o+0)++[v]++cur.toList.drop (o+0+[v].length)).toArray=w.setRow b (cur.setIfInBounds o v):=by
  congr 1
  apply Array.toList_inj.1
  rw [Array.toList_setIfInBounds,Nat.add_zero,List.set_eq_take_append_cons_drop,if_pos (by simpa using ho)]
  simp
 rw [hw'] at hst
 have hlt:=hS.lt _ (.head _) b hb
 refine wl_do hw (w':=w.setRow b (cur.setIfInBounds o v)) (fun ρ _ _ _ _ _ ha=>?_) (h _ ?_)
 ·have hcl:v.cells.toList=[v]:=by rw [hc]
  have hcs:v.cells.size=1:=by rw [hc];rfl
  simp [execOp,ha x _ hx,ha y _ hy,Instr.storeAt,Instr.sureAddr,storeVar,run_sizeOf hT,hcs,hcl,hst]
 ·have hoth: ∀b',b'≠b→(w.setRow b (cur.setIfInBounds o v)).heap[b']? =w.heap[b']? :=fun b' hb'=>setRow_other w b b' _ hb'
  have hself:(w.setRow b (cur.setIfInBounds o v)).heap[b]? =some (.cells (cur.setIfInBounds o v) U (0,0)):=setRow_heap w b cur _ U (0,0) e'
  have hBM:b∈M∨w0.heap.size≤b:=hlt.2.symm
  refine⟨hS.os,hS.tape,hS.output,fun b' o' v' e1=>?_,hS.le,by have:=hS.size;simpa [World.setRow] using this,fun b' h1 h2=>?_,hS.oldK,fun it hi=>?_,fun it hi b' hb'=>?_,hS.nodup,hS.drawn⟩
  ·have hne:b'≠b:=fun q=>by subst q;rw [hKn] at e1;cases e1
   rw [World.cell?_of_block (w:=w) (a:=⟨b',o',none⟩) (hoth b' hne)]
   exact hS.holds b' o' v' e1
  ·have hne:b'≠b:=fun q=>by
    subst q
    rcases hBM with q | q
    ·exact h2 q
    ·omega
   rw [hoth b' hne];exact hS.old b' h1 h2
  ·rcases List.mem_cons.1 hi with rfl | hi
   ·refine⟨trivial,fun b' hb'=>?_⟩
    obtain⟨g1,cur',U',g2,g3⟩:=(hS.items _ (.head _)).2 b' hb'
    refine⟨g1,?_⟩
    by_cases hq:b'=b
    ·subst hq
     rw [e] at g2
     cases g2
     refine⟨_,U,hself,fun o' v' hk'=>?_⟩
     obtain⟨u,hu,hv⟩:=g3 o' v' hk'
     by_cases ho':o=o'
     ·subst ho'
      rw [hk] at hk'
      cases hk'
      refine⟨v,by rw [Array.getElem?_setIfInBounds_self_of_lt ho],fun q=>?_⟩
      rw [hh] at q;cases q
     ·exact⟨u,by rw [Array.getElem?_setIfInBounds_ne ho'];exact hu,hv⟩
    ·exact⟨cur',U',by show (w.setRow b (cur.setIfInBounds o v)).heap[b']? =_;rw [hoth b' hq];exact g2,g3⟩
   ·have h1:=hS.items it (.tail _ hi)
    refine⟨h1.1,it.loc (fun b' hb'=>⟨?_,rfl⟩) h1.2⟩
    have hnd:=hS.nodup
    rw [List.flatMap_cons,List.nodup_append] at hnd
    have hne:b'≠b:=fun q=>hnd.2.2 b hb b' (List.mem_flatMap.2 ⟨it,hi,hb'⟩) q.symm
    exact(hoth b' hne).symm
  ·have:=hS.lt it hi b' hb'
   exact⟨by simpa [World.setRow] using this.1,this.2⟩
end
end Go.Fk
