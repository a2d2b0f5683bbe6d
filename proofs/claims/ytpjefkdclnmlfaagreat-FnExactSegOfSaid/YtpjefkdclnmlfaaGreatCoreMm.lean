import Derived.Test.YtpjefkdclnmlfaaGreatCoreL
/-
  Blocks that the call has made and owns whole: data that lie in them alone; marks that are written into them. Of no program.
-/
namespace Go.Fk
open Go
set_option linter.unusedSectionVars false
variable [dr:Dr]
section
variable {P:Program}{ops:Array Oper}{Q:Exit→Act→World→Prop}{N:Nat}{E:Env}{w w0 w':World}{K K0 K':KMap}{M B B':List Nat}{L L':List Item}
variable {x y:Operand}{T U:TypeId}{size bytes:Nat}{zero:Value}{agg:Bool}{rest:List Oper}{ty:TypeId}{pos:String}{af:Array Edge}{gd:Option (Nat×Bool)}
def KMap.only (K:KMap)(B:List Nat):KMap:=fun b o=>if b∈B then K b o else none
def KMap.but (K:KMap)(B:List Nat):KMap:=fun b o=>if b∈B then none else K b o
theorem only_at {b:Nat}(h:b∈B)(o:Nat):K.only B b o=K b o:=if_pos h
theorem but_in {b:Nat}(h:b∈B)(o:Nat):K.but B b o=none:=if_pos h
theorem but_at {b:Nat}(h:b∉B)(o:Nat):K.but B b o=K b o:=if_neg h
theorem only_some {b o:Nat}{v:Value}(e:K.only B b o=some v):b∈B∧K b o=some v:=by
 unfold KMap.only at e
 split at e
 ·rename_i hb;exact⟨hb,e⟩
 ·cases e
theorem only_le:KLe (K.only B) K:=fun b o v e=>by
 unfold KMap.only at e
 split at e
 ·exact e
 ·cases e
theorem but_le:KLe (K.but B) K:=fun b o v e=>by
 unfold KMap.but at e
 split at e
 ·cases e
 ·exact e
theorem only_mono (h:KLe K K')(hB: ∀b∈B,b∈B'):KLe (K.only B) (K'.only B'):=fun b o v e=>by
 unfold KMap.only at e ⊢
 split at e
 ·rename_i hb
  rw [if_pos (hB b hb)];exact h b o v e
 ·cases e
theorem le_but (hl:KLe K0 K)(hh:Holds K0 w0)(hB: ∀b∈B,w0.heap.size≤b):KLe K0 (K.but B):=fun b o v e=>by
 have hlt:=hh.lt e
 have hn:b∉B:=fun hb=>by have:=hB b hb;omega
 rw [but_at hn];exact hl b o v e
theorem only_but2 {C:List Nat}(hd: ∀b∈C,b∉B):KLe (K.only C) ((K.but B).only C):=fun b o v e=>by
 obtain⟨hb,e⟩:=only_some e
 rw [only_at hb,but_at (hd b hb)];exact e
def Ty.fix {α:Type}(t:Ty α)(Kx:KMap):Ty α where
 size:=t.size
 agg:=t.agg
 rel:=fun _ v x=>t.rel Kx v x
 mono:=fun _ _ _ h=>h
 shape:=t.shape
 size_eq:=t.size_eq
 ones:=t.ones
theorem SliceAt.unfix {α:Type}{t:Ty α}{Kx:KMap}{a:Option Addr}{n c:Nat}{xs:List α}(h:SliceAt (t.fix Kx) K a n c xs)(hx:KLe Kx (K.only B))(ha:0<c→∀b o,a=some ⟨b,o,none⟩→b∈B):SliceAt t (K.only B) a n c xs:=
 ⟨h.1,h.2.1,h.2.2.1,fun hc=>let ⟨b,o,e1,h5⟩:=h.2.2.2 hc;⟨b,o,e1,fun i x hi=>let ⟨u,r,k⟩:=h5 i x hi;⟨u,t.mono hx r,fun j d e=>by rw [only_at (ha hc b o e1)];exact k j d e⟩⟩⟩
def Ty.flat {α:Type}(t:Ty α):Prop:=∀{K K':KMap} {v:Value} {x:α},t.rel K v x→t.rel K' v x
theorem SliceAt.only_flat {α:Type}{t:Ty α}(hf:t.flat){a:Option Addr}{n c:Nat}{xs:List α}(h:SliceAt t K a n c xs)(ha:0<c→∀b o,a=some ⟨b,o,none⟩→b∈B):SliceAt t (K.only B) a n c xs:=
 ⟨h.1,h.2.1,h.2.2.1,fun hc=>let ⟨b,o,e1,h5⟩:=h.2.2.2 hc;⟨b,o,e1,fun i x hi=>let ⟨u,r,k⟩:=h5 i x hi;⟨u,hf r,fun j d e=>by rw [only_at (ha hc b o e1)];exact k j d e⟩⟩⟩
def bag (B:List Nat):Item:=⟨B,True,fun H _=>∀b∈B,∃cur T,H b=some (.cells cur T (0,0)),fun h hok b hb=>by rw [←(h b hb).1];exact hok b hb⟩
theorem SH.bag0 (h:SH w0 K0 M w K L):SH w0 K0 M w K (bag []::L):=
 ⟨h.os,h.tape,h.output,h.holds,h.le,h.size,h.old,h.oldK,by
  intro it hi
  rcases List.mem_cons.1 hi with rfl | hi
  ·exact⟨trivial,fun b hb=>by cases hb⟩
  ·exact h.items it hi,by
  intro it hi b hb
  rcases List.mem_cons.1 hi with rfl | hi
  ·cases hb
  ·exact h.lt it hi b hb,by
  rw [List.flatMap_cons];exact h.nodup,h.drawn⟩
theorem SH.bagJoin (h:SH w0 K0 M w K (bag B::bag B'::L)):SH w0 K0 M w K (bag (B++B')::L):=
 ⟨h.os,h.tape,h.output,h.holds,h.le,h.size,h.old,h.oldK,by
  intro it hi
  rcases List.mem_cons.1 hi with rfl | hi
  ·refine⟨trivial,fun b hb=>?_⟩
   rcases List.mem_append.1 hb with hb | hb
   ·exact(h.items _ (.head _)).2 b hb
   ·exact(h.items _ (.tail _ (.head _))).2 b hb
  ·exact h.items it (.tail _ (.tail _ hi)),by
  intro it hi b hb
  rcases List.mem_cons.1 hi with rfl | hi
  ·rcases List.mem_append.1 hb with hb | hb
   ·exact h.lt _ (.head _) b hb
   ·exact h.lt _ (.tail _ (.head _)) b hb
  ·exact h.lt it (.tail _ (.tail _ hi)) b hb,by
  have:=h.nodup
  rw [List.flatMap_cons,List.flatMap_cons,←List.append_assoc] at this
  rw [List.flatMap_cons];exact this,h.drawn⟩
theorem SH.bagTail {a:Option Addr}{n c sz:Nat}(h:SH w0 K0 M w K (tail (.slice a n c) T sz::L)): ∃B,SH w0 K0 M w K (bag B::L)∧(0<c→∀b o,a=some ⟨b,o,none⟩→b∈B):=by
 refine⟨(tail (.slice a n c) T sz).gs,⟨h.os,h.tape,h.output,h.holds,h.le,h.size,h.old,h.oldK,?_,?_,h.nodup,h.drawn⟩,fun hc b o ha=>?_⟩
 ·intro it hi
  rcases List.mem_cons.1 hi with rfl | hi
  ·refine⟨trivial,fun b hb=>?_⟩
   have h1:=(h.items _ (.head _)).2 b (by simpa [tail,one] using hb)
   obtain⟨g,n',cap,cur,_,e,_⟩:=h1
   exact⟨cur,T,e⟩
  ·exact h.items it (.tail _ hi)
 ·intro it hi b hb
  rcases List.mem_cons.1 hi with rfl | hi
  ·exact h.lt _ (.head _) b hb
  ·exact h.lt it (.tail _ hi) b hb
 ·have hs:=(h.items _ (.head _)).1
  rcases hs with hs | ⟨g,n',cap,hs,_⟩
  ·cases hs;omega
  ·cases hs
   cases ha
   simp [tail,one,Value.ownBlock]
theorem SH.bag_new (h:SH w0 K0 [] w K (bag B::L)): ∀b∈B,w0.heap.size≤b∧b<w.heap.size:=fun b hb=>by
 have:=h.lt _ (.head _) b hb
 exact⟨this.2.resolve_right (by simp),this.1⟩
theorem SH.bag_off (h:SH w0 K0 M w K (bag B::L)): ∀it∈L,∀b∈it.gs,b∉B:=fun it hi b hb hB=>by
 have hnd:=h.nodup
 rw [List.flatMap_cons,List.nodup_append] at hnd
 exact hnd.2.2 b hB b (List.mem_flatMap.2 ⟨it,hi,hb⟩) rfl
def hdrV:Value→Bool
 | .slice _ _ _=>true
 | _=>false
def mkI (B:List Nat)(KM:KMap):Item:=⟨B,True,fun H K=>∀b∈B,(∀o,K b o=none)∧∃cur T,H b=some (.cells cur T (0,0))∧∀o v,KM b o=some v→∃u,cur[o]? =some u∧(hdrV v=true→u=v),
 fun h hok b hb=>by
  obtain⟨h1,cur,T,h2,h3⟩:=hok b hb
  exact⟨fun o=>by rw [←(h b hb).2];exact h1 o,cur,T,by rw [←(h b hb).1];exact h2,h3⟩⟩
theorem SH.toMk (h0:Holds K0 w0)(h:SH w0 K0 [] w K (bag B::L)):SH w0 K0 [] w (K.but B) (mkI B K::L) where
 os:=h.os
 tape:=h.tape
 output:=h.output
 holds:=fun b o v e=>h.holds b o v (but_le b o v e)
 le:=le_but h.le h0 fun b hb=>(h.bag_new b hb).1
 size:=h.size
 old:=h.old
 oldK:=fun b hb hm=>by
  funext o
  rw [but_at (fun hB=>by have:=(h.bag_new b hB).1;omega),h.oldK b hb hm]
 items:=by
  intro it hi
  rcases List.mem_cons.1 hi with rfl | hi
  ·refine⟨trivial,fun b hb=>⟨fun o=>but_in hb o,?_⟩⟩
   obtain⟨cur,T,e⟩:=(h.items _ (.head _)).2 b hb
   refine⟨cur,T,e,fun o v hk=>⟨v,?_,fun _=>rfl⟩⟩
   have:=h.holds b o v hk
   have e':w.heap[b]? =some (.cells cur T (0,0)):=e
   simpa [World.cell?,e'] using this
  ·have h1:=h.items it (.tail _ hi)
   exact⟨h1.1,it.loc (fun b hb=>⟨rfl,funext fun o=>(but_at (h.bag_off it hi b hb) o).symm⟩) h1.2⟩
 lt:=by
  intro it hi b hb
  rcases List.mem_cons.1 hi with rfl | hi
  ·exact h.lt _ (.head _) b hb
  ·exact h.lt it (.tail _ hi) b hb
 nodup:=h.nodup
 drawn:=h.drawn
variable {KM:KMap}
theorem mk_load {b o n c:Nat}{a:Option Addr}(hT:TF P T size false zero bytes)(hx:ev E x=some (.pointer (some ⟨b,o,none⟩)))(hS:SH w0 K0 M w K (mkI B KM::L))(hk:KM.only B b o=some (.slice a n c)):RV P E w (.load T x) (.slice a n c):=
 have hb:=(only_some hk).1
 have hk:=(only_some hk).2
 rv_load hT hx (cs:=[.slice a n c]) (fun j d e=>by
  cases j with
  | zero=>
   simp at e;subst e
   obtain⟨_,cur,U,e,h3⟩:=(hS.items _ (.head _)).2 b hb
   obtain⟨u,hu,hv⟩:=h3 o _ hk
   have hv':=hv rfl
   subst hv'
   have e':w.heap[b]? =some (.cells cur U (0,0)):=e
   simpa [World.cell?,e'] using hu
  | succ j=>simp at e) (.inr ⟨rfl,rfl⟩)
theorem mk_store {b o:Nat}{v v0:Value}(hw:Wanted ops N E gd)(hT:TF P T 1 false zero bytes)(hx:ev E x=some (.pointer (some ⟨b,o,none⟩)))(hy:ev E y=some v)(hone:v.oneCell'=true)(hS:SH w0 K0 M w K (mkI B KM::L))
  (hk:KM.only B b o=some v0)(hh:hdrV v0=false)(h: ∀w',SH w0 K0 M w' K (mkI B KM::L)→WL P ops Q N rest E w'):WL P ops Q N (⟨none,.store T x y,ty,pos,af,gd⟩::rest) E w:=by
 obtain⟨hb,hk⟩:=only_some hk
 obtain⟨hKn,cur,U,e,h3⟩:=(hS.items _ (.head _)).2 b hb
 have e':w.heap[b]? =some (.cells cur U (0,0)):=e
 obtain⟨u0,hu0,_⟩:=h3 o v0 hk
 have ho:o<cur.size:=(Array.getElem?_eq_some_iff.1 hu0).1
 have hc:=cells_one hone
 have hst:=run_storeCells_obj (P:=P) b o U (0,0) [v] 0 cur w e' (.inl rfl) (by simp;omega) (by simpa using hone)
 have hw':w.setRow b (cur.toList.take (o+0)++[v]++cur.toList.drop (o+0+[v].length)).toArray=w.setRow b (cur.setIfInBounds o v):=by
  congr 1
  apply Array.toList_inj.1
  rw [Array.toList_setIfInBounds,Nat.add_zero,List.set_eq_take_append_cons_drop,if_pos (by simpa using ho)]
  simp
 rw [hw'] at hst
 have hlt:=hS.lt _ (.head _) b hb
 refine wl_do hw (w':=w.setRow b (cur.setIfInBounds o v)) (fun ρ _ _ _ _ _ ha=>?_) (h _ ?_)
 ·have hcl:v.cells.toList=[v]:=by rw [hc]
  have hcs:v.cells.size=1:=by rw [hc];rfl
  simp [execOp,ha x _ hx,ha y _ hy,Instr.storeAt,Instr.sureAddr,storeVar,run_sizeOf hT,hcs,hcl,hst]
 ·have hoth: ∀b',b'≠b→(w.setRow b (cur.setIfInBounds o v)).heap[b']? =w.heap[b']? :=fun b' hb'=>setRow_other w b b' _ hb'
  have hself:(w.setRow b (cur.setIfInBounds o v)).heap[b]? =some (.cells (cur.setIfInBounds o v) U (0,0)):=setRow_heap w b cur _ U (0,0) e'
  have hBM:b∈M∨w0.heap.size≤b:=hlt.2.symm
  refine⟨hS.os,hS.tape,hS.output,fun b' o' v' e1=>?_,hS.le,by have:=hS.size;simpa [World.setRow] using this,fun b' h1 h2=>?_,hS.oldK,fun it hi=>?_,fun it hi b' hb'=>?_,hS.nodup,hS.drawn⟩
  ·have hne:b'≠b:=fun q=>by subst q;rw [hKn] at e1;cases e1
   rw [World.cell?_of_block (w:=w) (a:=⟨b',o',none⟩) (hoth b' hne)]
   exact hS.holds b' o' v' e1
  ·have hne:b'≠b:=fun q=>by
    subst q
    rcases hBM with q | q
    ·exact h2 q
    ·omega
   rw [hoth b' hne];exact hS.old b' h1 h2
  ·rcases List.mem_cons.1 hi with rfl | hi
   ·refine⟨trivial,fun b' hb'=>?_⟩
    obtain⟨g1,cur',U',g2,g3⟩:=(hS.items _ (.head _)).2 b' hb'
    refine⟨g1,?_⟩
    by_cases hq:b'=b
    ·subst hq
     rw [e] at g2
     cases g2
     refine⟨_,U,hself,fun o' v' hk'=>?_⟩
     obtain⟨u,hu,hv⟩:=g3 o' v' hk'
     by_cases ho':o=o'
     ·subst ho'
      rw [hk] at hk'
      cases hk'
      refine⟨v,by rw [Array.getElem?_setIfInBounds_self_of_lt ho],fun q=>?_⟩
      rw [hh] at q;cases q
     ·exact⟨u,by rw [Array.getElem?_setIfInBounds_ne ho'];exact hu,hv⟩
    ·exact⟨cur',U',by show (w.setRow b (cur.setIfInBounds o v)).heap[b']? =_;rw [hoth b' hq];exact g2,g3⟩
   ·have h1:=hS.items it (.tail _ hi)
    refine⟨h1.1,it.loc (fun b' hb'=>⟨?_,rfl⟩) h1.2⟩
    have hnd:=hS.nodup
    rw [List.flatMap_cons,List.nodup_append] at hnd
    have hne:b'≠b:=fun q=>hnd.2.2 b hb b' (List.mem_flatMap.2 ⟨it,hi,hb'⟩) q.symm
    exact(hoth b' hne).symm
  ·have:=hS.lt it hi b' hb'
   exact⟨by simpa [World.setRow] using this.1,this.2⟩
end
end Go.Fk
namespace Go.Fk
open Go
set_option linter.unusedSectionVars false
variable [dr:Dr]
section
variable {P:Program}{ops:Array Oper}{Q:Exit→Act→World→Prop}{N:Nat}{E:Env}{w w0 w':World}{K K0 K':KMap}{M B B':List Nat}{L L':List Item}
variable {x y:Operand}{T U:TypeId}{size bytes:Nat}{zero:Value}{agg:Bool}{rest:List Oper}{ty:TypeId}{pos:String}{af:Array Edge}{gd:Option (Nat×Bool)}
def RowN {α:Type}(t:Ty α)(K:KMap)(cs:List Value)(xs:List α):Prop:=
 xs.length*t.size≤cs.length∧∀(i:Nat) x,xs[i]? =some x→∃u,t.rel K u x∧∀j d,u.cells.toList[j]? =some d→cs[i*t.size+j]? =some d
theorem RowN.mono {α:Type}{t:Ty α}(h:KLe K K'){cs:List Value}{xs:List α}(p:RowN t K cs xs):RowN t K' cs xs:=
 ⟨p.1,fun i x hx=>let ⟨u,hu,hk⟩:=p.2 i x hx;⟨u,t.mono h hu,hk⟩⟩
theorem splice_one (cs:List Value)(o:Nat)(v:Value)(h:o<cs.length):splice cs o [v]=cs.set o v:=by
 unfold splice
 rw [List.set_eq_take_append_cons_drop,if_pos h,List.append_assoc]
 rfl
theorem w64_next {i:Nat}(h:i<maxLen):w64 ((i:Int)+(1:Int))=((i+1:Nat):Int):=by
 have h':i<9223372036854775807:=h
 rw [w64_of ⟨by omega,by omega⟩];omega
end
end Go.Fk
namespace Go.Fk
open Go
set_option linter.unusedSectionVars false
variable [dr:Dr]
structure Own (α:Type) where
 ty:Ty α
 own:KMap→List Nat→Value→α→Prop
 rel: ∀{K:KMap} {f:List Nat} {v:Value} {x:α},own K f v x→ty.rel K v x
 loc: ∀{K K':KMap} {f:List Nat} {v:Value} {x:α},(∀b∈f,∀o u,K b o=some u→K' b o=some u)→own K f v x→own K' f v x
def Own.pair {α:Type}(o:Own α):Ty (α×List Nat) where
 size:=o.ty.size
 agg:=o.ty.agg
 rel:=fun K v p=>o.own K p.2 v p.1
 mono:=fun h _ _ r=>o.loc (fun b _ i u e=>h b i u e) r
 shape:=fun r=>o.ty.shape (o.rel r)
 size_eq:=fun r=>o.ty.size_eq (o.rel r)
 ones:=fun r=>o.ty.ones (o.rel r)
def Own.flat {α:Type}(t:Ty α)(hf:t.flat):Own α where
 ty:=t
 own:=fun K f v x=>t.rel K v x∧f=[]
 rel:=fun h=>h.1
 loc:=fun _ h=>⟨hf h.1,h.2⟩
def RowO {α:Type}(o:Own α)(K:KMap)(f:List Nat)(v:Value)(xs:List α):Prop:=
 (v= .slice none 0 0∧xs=[]∧f=[])∨∃(g c:Nat) (ps:List (α×List Nat)),v= .slice (some ⟨g,0,none⟩) xs.length c∧xs.length≤c∧c≤maxLen∧f=g::ps.flatMap Prod.snd∧ps.map Prod.fst=xs∧
  ∀(i:Nat) p,ps[i]? =some p→∃u,o.own K p.2 u p.1∧AtK K g (i*o.ty.size) u.cells.toList
theorem RowO.sl {α:Type}{o:Own α}{K:KMap}{f:List Nat}{a:Option Addr}{n c:Nat}{xs:List α}(h:RowO o K f (.slice a n c) xs):SliceAt o.ty K a n c xs:=by
 rcases h with ⟨e,rfl,rfl⟩ | ⟨g,c',ps,e,h1,h2,rfl,rfl,h3⟩
 ·cases e;exact⟨rfl,Nat.le_refl _,Nat.zero_le _,fun h=>by omega⟩
 ·cases e
  refine⟨rfl,h1,h2,fun _=>⟨g,0,rfl,fun i x hx=>?_⟩⟩
  rw [List.getElem?_map] at hx
  obtain⟨p,hp,rfl⟩:=Option.map_eq_some_iff.1 hx
  obtain⟨u,hu,hk⟩:=h3 i p hp
  exact⟨u,o.rel hu,by rw [Nat.zero_add];exact hk⟩
theorem RowO.val {α:Type}{o:Own α}{K:KMap}{f:List Nat}{v:Value}{xs:List α}(h:RowO o K f v xs): ∃a n c,v= .slice a n c:=by
 rcases h with ⟨e,_,_⟩ | ⟨g,c',ps,e,_⟩<;>exact⟨_,_,_,e⟩
def Own.row {α:Type}(o:Own α):Own (List α) where
 ty:=tSlice o.ty
 own:=RowO o
 rel:=fun h=>by
  obtain⟨a,n,c,rfl⟩:=h.val
  exact⟨a,n,c,rfl,h.sl⟩
 loc:=fun {K K' f v xs} hl h=>by
  rcases h with h | ⟨g,c,ps,e,h1,h2,rfl,hx,h3⟩
  ·exact .inl h
  ·refine .inr ⟨g,c,ps,e,h1,h2,rfl,hx,fun i p hp=>?_⟩
   obtain⟨u,hu,hk⟩:=h3 i p hp
   refine⟨u,o.loc (fun b hb=>hl b (List.mem_cons_of_mem _ (List.mem_flatMap.2 ⟨p,List.mem_of_getElem? hp,hb⟩))) hu,fun j d e=>hl g (List.mem_cons_self ..) _ _ (hk j d e)⟩
theorem RowO.loc {α:Type}{o:Own α}{K K':KMap}{f:List Nat}{v:Value}{xs:List α}(h:RowO o K f v xs)(hl: ∀b∈f,∀i u,K b i=some u→K' b i=some u):RowO o K' f v xs:=(Own.row o).loc hl h
theorem RowO.mono {α:Type}{o:Own α}{K K':KMap}{f:List Nat}{v:Value}{xs:List α}(h:RowO o K f v xs)(hl:KLe K K'):RowO o K' f v xs:=h.loc fun b _ i u e=>hl b i u e
theorem RowO.same {α:Type}{o:Own α}{K K':KMap}{f:List Nat}{v:Value}{xs:List α}(h:RowO o K f v xs)(hl: ∀b∈f,K' b=K b):RowO o K' f v xs:=h.loc fun b hb i u e=>by rw [hl b hb];exact e
theorem RowO.at {α:Type}{o:Own α}{H:KMap}{f:List Nat}{a:Option Addr}{n c:Nat}{xs:List α}{k:Int}{x:α}(h:RowO o H f (.slice a n c) xs)(hf:f.Nodup)(hx:getI xs k=some x):
  ∃g fi u,a=some ⟨g,0,none⟩∧n=xs.length∧g∈f∧(∀b∈fi,b∈f)∧g∉fi∧fi.Nodup∧o.own H fi u x∧AtK H g (k.toNat*o.ty.size) u.cells.toList∧
   ∀H' u' x',o.own H' fi u' x'→AtK H' g (k.toNat*o.ty.size) u'.cells.toList→(∀b,b∉fi→∀q,b≠g∨q<k.toNat*o.ty.size∨k.toNat*o.ty.size+o.ty.size≤q→H' b q=H b q)→RowO o H' f (.slice a n c) (xs.set k.toNat x'):=by
 obtain⟨g0,g1,g2⟩:=getI_some hx
 generalize k.toNat=i at *
 rcases h with ⟨e,rfl,rfl⟩ | ⟨g,c',ps,e,h1,h2,rfl,rfl,h3⟩
 ·cases g2
 cases e
 rw [List.getElem?_map] at g2
 obtain⟨p,hp,rfl⟩:=Option.map_eq_some_iff.1 g2
 have hpm:=List.mem_of_getElem? hp
 have hi:=(List.getElem?_eq_some_iff.1 hp).1
 obtain⟨u,hu,hk⟩:=h3 i p hp
 have hcons:=List.nodup_cons.1 hf
 have hsub: ∀b∈p.2,b∈ps.flatMap Prod.snd:=fun b hb=>List.mem_flatMap.2 ⟨p,hpm,hb⟩
 have hgp: ∀{q:α×List Nat},q∈ps→g∉q.2:=fun hq hg=>hcons.1 (List.mem_flatMap.2 ⟨_,hq,hg⟩)
 have hpn:p.2.Nodup:=by
  have:=(List.pairwise_flatMap.1 hcons.2).1 p hpm
  exact this
 have hoff: ∀(j:Nat) q,j≠i→ps[j]? =some q→∀b∈q.2,b∉p.2:=fun j q hj hq b hb hbp=>by
  have hpw:=(List.pairwise_flatMap.1 hcons.2).2
  obtain⟨hjl,rfl⟩:=List.getElem?_eq_some_iff.1 hq
  obtain⟨_,rfl⟩:=List.getElem?_eq_some_iff.1 hp
  rcases Nat.lt_or_gt_of_ne hj with h | h
  ·exact List.pairwise_iff_getElem.1 hpw j i hjl hi h b hb b hbp rfl
  ·exact List.pairwise_iff_getElem.1 hpw i j hi hjl h b hbp b hb rfl
 refine⟨g,p.2,u,rfl,rfl,List.mem_cons_self ..,fun b hb=>List.mem_cons_of_mem _ (hsub b hb),hgp hpm,hpn,hu,hk,fun H' u' x' ho hk' hsame=>?_⟩
 have hfl:(ps.set i (x',p.2)).flatMap Prod.snd=ps.flatMap Prod.snd:=by
  have:(ps.set i (x',p.2)).map Prod.snd=ps.map Prod.snd:=by
   rw [List.map_set]
   apply List.ext_getElem?
   intro j
   rw [List.getElem?_set]
   split
   ·rename_i hj
    subst hj
    rw [List.length_map,if_pos hi,List.getElem?_map,hp];rfl
   ·rfl
  rw [List.flatMap_def,List.flatMap_def,this]
 refine .inr ⟨g,c,ps.set i (x',p.2),by rw [List.length_set],by rw [List.length_set];exact h1,h2,by rw [hfl],by rw [List.map_set],fun j q hq=>?_⟩
 by_cases hj:j=i
 ·subst hj
  rw [List.getElem?_set_self hi] at hq
  cases hq
  exact⟨u',ho,hk'⟩
 ·rw [List.getElem?_set_ne (Ne.symm hj)] at hq
  obtain⟨v,hv,hkv⟩:=h3 j q hq
  have hgq:=hgp (List.mem_of_getElem? hq)
  refine⟨v,o.loc (fun b hb z w e=>?_) hv,fun z d e=>?_⟩
  ·rw [hsame b (hoff j q hj hq b hb) z (.inl fun e=>hgq (e▸hb))];exact e
  ·have hsz:v.cells.toList.length=o.ty.size:=by simpa using o.ty.size_eq (o.rel hv)
   have hz:=(List.getElem?_eq_some_iff.1 e).1
   rw [hsame g (hgp hpm) _ (.inr ?_)]
   ·exact hkv z d e
   ·rcases Nat.lt_or_gt_of_ne hj with h | h
    ·have:=Nat.mul_le_mul_right o.ty.size h
     rw [Nat.succ_mul] at this
     omega
    ·have:=Nat.mul_le_mul_right o.ty.size h
     rw [Nat.succ_mul] at this
     omega
section
variable {P:Program}{ops:Array Oper}{Q:Exit→Act→World→Prop}{N:Nat}{E:Env}{w w0 w':World}{K K0 K':KMap}{M B B':List Nat}{L L':List Item}
variable {x y:Operand}{T U:TypeId}{size bytes:Nat}{zero:Value}{agg:Bool}{rest:List Oper}{ty:TypeId}{pos:String}{af:Array Edge}{gd:Option (Nat×Bool)}
theorem SH.bag_nodup (h:SH w0 K0 M w K (bag B::L)):B.Nodup:=by
 have:=h.nodup
 rw [List.flatMap_cons,List.nodup_append] at this
 exact this.1
theorem SH.rowO {α:Type}{o:Own α}{a:Option Addr}{n c sz:Nat}{ps:List (α×List Nat)}(h:SH w0 K0 M w K (tail (.slice a n c) T sz::bag (ps.flatMap Prod.snd)::L))(hs:SliceAt o.pair K a n c ps):
  ∃f,SH w0 K0 M w K (bag f::L)∧RowO o K f (.slice a n c) (ps.map Prod.fst):=by
 have hside:=(h.items _ (.head _)).1
 obtain⟨f,hb,hf⟩: ∃f,f=(tail (.slice a n c) T sz).gs++ps.flatMap Prod.snd∧SH w0 K0 M w K (bag f::L):=by
  refine⟨_,rfl,SH.bagJoin ?_⟩
  refine⟨h.os,h.tape,h.output,h.holds,h.le,h.size,h.old,h.oldK,?_,?_,h.nodup,h.drawn⟩
  ·intro it hi
   rcases List.mem_cons.1 hi with rfl | hi
   ·refine⟨trivial,fun b hb=>?_⟩
    have h1:=(h.items _ (.head _)).2 b (by simpa [tail,one] using hb)
    obtain⟨g,n',cap,cur,_,e,_⟩:=h1
    exact⟨cur,T,e⟩
   ·exact h.items it (.tail _ hi)
  ·intro it hi b hb
   rcases List.mem_cons.1 hi with rfl | hi
   ·exact h.lt _ (.head _) b hb
   ·exact h.lt it (.tail _ hi) b hb
 refine⟨f,hf,?_⟩
 rcases hside with e | ⟨g,n',c',e,h1,h2⟩
 ·cases e
  have:ps=[]:=List.eq_nil_of_length_eq_zero hs.1.symm
  subst this
  exact .inl ⟨rfl,rfl,hb⟩
 ·cases e
  refine .inr ⟨g,c,ps,by rw [List.length_map,hs.1],by rw [List.length_map,←hs.1];exact h1,h2,by rw [hb];rfl,rfl,fun i p hp=>?_⟩
  have hi:=(List.getElem?_eq_some_iff.1 hp).1
  have h1':=hs.1
  have h2':=hs.2.1
  obtain⟨b,q,e1,h5⟩:=hs.2.2.2 (by omega)
  cases e1
  obtain⟨u,hu,hk⟩:=h5 i p hp
  exact⟨u,hu,by rw [Nat.zero_add] at hk;exact hk⟩
theorem SH.rowF {α:Type}{t:Ty α}(hf:t.flat){a:Option Addr}{n c sz:Nat}{xs:List α}(h:SH w0 K0 M w K (tail (.slice a n c) T sz::L))(hs:SliceAt t K a n c xs):
  ∃f,SH w0 K0 M w K (bag f::L)∧RowO (Own.flat t hf) K f (.slice a n c) xs:=by
 have hfl:(xs.map fun x=>(x,([]:List Nat))).flatMap Prod.snd=[]:=by
  refine List.flatMap_eq_nil_iff.2 fun p hp=>?_
  obtain⟨y,_,rfl⟩:=List.mem_map.1 hp
  rfl
 have h1:SH w0 K0 M w K (tail (.slice a n c) T sz::bag ((xs.map fun x=>(x,([]:List Nat))).flatMap Prod.snd)::L):=by
  rw [hfl];exact h.bag0.perm (List.Perm.swap _ _ _)
 obtain⟨f,h2,h3⟩:=h1.rowO (o:=Own.flat t hf) (a:=a) (n:=n) (c:=c) ⟨by rw [List.length_map];exact hs.1,hs.2.1,hs.2.2.1,fun hc=>by
  obtain⟨b,q,e,h5⟩:=hs.2.2.2 hc
  refine⟨b,q,e,fun i p hp=>?_⟩
  rw [List.getElem?_map] at hp
  obtain⟨y,hy,rfl⟩:=Option.map_eq_some_iff.1 hp
  obtain⟨u,hu,hk⟩:=h5 i y hy
  exact⟨u,⟨hu,rfl⟩,hk⟩⟩
 refine⟨f,h2,?_⟩
 rw [List.map_map] at h3
 simpa [Function.comp_def] using h3
def OwnS {α:Type}(o:Own α)(K:KMap)(a:Option Addr)(n c:Nat)(B:List Nat)(xs:List α):Prop:=∃ps,SliceAt o.pair K a n c ps∧ps.map Prod.fst=xs∧B=ps.flatMap Prod.snd
theorem OwnS.sl {α:Type}{o:Own α}{K:KMap}{a:Option Addr}{n c:Nat}{B:List Nat}{xs:List α}(h:OwnS o K a n c B xs):SliceAt o.ty K a n c xs:=by
 obtain⟨ps,hs,rfl,_⟩:=h
 refine⟨by rw [List.length_map];exact hs.1,hs.2.1,hs.2.2.1,fun hc=>?_⟩
 obtain⟨b,q,e,h5⟩:=hs.2.2.2 hc
 refine⟨b,q,e,fun i x hx=>?_⟩
 rw [List.getElem?_map] at hx
 obtain⟨p,hp,rfl⟩:=Option.map_eq_some_iff.1 hx
 obtain⟨u,hu,hk⟩:=h5 i p hp
 exact⟨u,o.rel hu,hk⟩
theorem OwnS.mono {α:Type}{o:Own α}{K K':KMap}{a:Option Addr}{n c:Nat}{B:List Nat}{xs:List α}(h:OwnS o K a n c B xs)(hl:KLe K K'):OwnS o K' a n c B xs:=
 let ⟨ps,hs,e,eb⟩:=h
 ⟨ps,SliceAt.mono hl hs,e,eb⟩
theorem OwnS.none {α:Type}{o:Own α}{K:KMap}{a:Option Addr}{n c:Nat}(h:SliceAt o.ty K a n c ([]:List α)):OwnS o K a n c [] []:=
 ⟨[],⟨h.1,h.2.1,h.2.2.1,fun hc=>let ⟨b,q,e,_⟩:=h.2.2.2 hc;⟨b,q,e,fun i x hx=>by simp at hx⟩⟩,rfl,rfl⟩
theorem OwnS.one {α:Type}{o:Own α}{K:KMap}{a:Option Addr}{n c:Nat}{f:List Nat}{x:α}(h:SliceAt o.pair K a n c [(x,f)]):OwnS o K a n c f [x]:=⟨_,h,rfl,by simp⟩
theorem SH.ownS {α:Type}{o:Own α}{a:Option Addr}{n c sz:Nat}{xs:List α}(h:SH w0 K0 M w K (tail (.slice a n c) T sz::bag B::L))(hs:OwnS o K a n c B xs):
  ∃f,SH w0 K0 M w K (bag f::L)∧RowO o K f (.slice a n c) xs:=by
 obtain⟨ps,h1,rfl,rfl⟩:=hs
 exact h.rowO h1
theorem SH.bagEnd {it:Item}(h:SH w0 K0 M w K (it::bag B'::bag B::L)):SH w0 K0 M w K (it::bag (B++B')::L):=
 (SH.bagJoin (h.perm ((List.Perm.swap _ _ _).trans ((List.Perm.cons _ (List.Perm.swap _ _ _)).trans (List.Perm.swap _ _ _))):SH w0 K0 M w K (bag B::bag B'::it::L))).perm (List.Perm.swap _ _ _)
theorem SH.back {it:Item}{p q:List Item}(h:SH w0 K0 M w K (it::(p++q))):SH w0 K0 M w K (p++it::q):=h.perm List.perm_middle
theorem SH.toEnd {it:Item}{p q:List Item}(h:SH w0 K0 M w K (p++it::q)):SH w0 K0 M w K (p++(q++[it])):=h.perm (List.Perm.append_left p (List.perm_append_comm (l₁:=q) (l₂:=[it])))
theorem SH.bagAdd {it:Item}(h:SH w0 K0 M w K (it::L)):SH w0 K0 M w K (it::bag []::L):=h.bag0.perm (List.Perm.swap _ _ _)
theorem wl_appendO {α:Type}{o:Own α}{a a2:Option Addr}{n c n2 c2:Nat}{xs ys zs:List α}{d:Tmp}(hw:Wanted ops N E gd)(hd:Nat.blt d N=true)(hT:P.underlying T=some (.slice U))(hU:TF P U o.ty.size agg zero bytes)(hsz:Nat.blt 0 o.ty.size=true)(hzs:zero.cells.size=o.ty.size)
  (hb:Nat.blt 0 bytes=true)(hx:ev E x=some (.slice a n c))(hy:ev E y=some (.slice a2 n2 c2))(hs:OwnS o K a n c B xs)(hs2:OwnS o K a2 n2 c2 B' ys)(hz:catL bytes xs ys=some zs)
  (hS:SH w0 K0 M w K (tail (.slice a n c) U o.ty.size::L))
  (h: ∀a' n' c' w' K',KLe K K'→OwnS o K' a' n' c' (B++B') zs→SH w0 K0 M w' K' (tail (.slice a' n' c') U o.ty.size::L)→WL P ops Q N rest ((d,.slice a' n' c')::E) w'):
  WL P ops Q N (⟨some d,.call {callee:=.builtin .append,args:=#[x,y],argTypes:=#[T,T]},ty,pos,af,gd⟩::rest) E w:=by
 obtain⟨ps,h1,rfl,rfl⟩:=hs
 obtain⟨qs,h2,rfl,rfl⟩:=hs2
 have hz2:catL bytes ps qs=some (ps++qs):=by
  unfold catL at hz ⊢
  split at hz
  ·rename_i hc
   rw [List.length_map,List.length_map] at hc
   rw [if_pos hc]
  ·cases hz
 have hz3:(ps++qs).map Prod.fst=zs:=by
  unfold catL at hz
  split at hz
  ·cases hz;rw [List.map_append]
  ·cases hz
 exact wl_append (t:=o.pair) hw hd hT hU hsz hzs hb hx hy h1 h2 hz2 hS fun a' n' c' w' K' hl hs' hS'=>h a' n' c' w' K' hl ⟨_,hs',hz3,by rw [List.flatMap_append]⟩ hS'
def poke (H:KMap)(g p:Nat)(v:Value):KMap:=fun b o=>if b=g∧o=p then some v else H b o
theorem poke_other {H:KMap}{g p:Nat}{v:Value}{b o:Nat}(h:b≠g∨o≠p):poke H g p v b o=H b o:=by
 unfold poke
 rw [if_neg (by omega)]
theorem poke_same (H:KMap)(g p:Nat)(v:Value):poke H g p v g p=some v:=by
 unfold poke
 rw [if_pos ⟨rfl,rfl⟩]
def hp (B:List Nat)(H:KMap):Item:=⟨B,True,fun h K=>∀b∈B,(∀o,K b o=none)∧∃cur T,h b=some (.cells cur T (0,0))∧∀o v,H b o=some v→cur[o]? =some v,
 fun h hok b hb=>by
  obtain⟨h1,cur,T,h2,h3⟩:=hok b hb
  exact⟨fun o=>by rw [←(h b hb).2];exact h1 o,cur,T,by rw [←(h b hb).1];exact h2,h3⟩⟩
theorem SH.toHp (h0:Holds K0 w0)(h:SH w0 K0 [] w K (bag B::L)):SH w0 K0 [] w (K.but B) (hp B K::L) where
 os:=h.os
 tape:=h.tape
 output:=h.output
 holds:=fun b o v e=>h.holds b o v (but_le b o v e)
 le:=le_but h.le h0 fun b hb=>(h.bag_new b hb).1
 size:=h.size
 old:=h.old
 oldK:=fun b hb hm=>by
  funext o
  rw [but_at (fun hB=>by have:=(h.bag_new b hB).1;omega),h.oldK b hb hm]
 items:=by
  intro it hi
  rcases List.mem_cons.1 hi with rfl | hi
  ·refine⟨trivial,fun b hb=>⟨fun o=>but_in hb o,?_⟩⟩
   obtain⟨cur,T,e⟩:=(h.items _ (.head _)).2 b hb
   refine⟨cur,T,e,fun o v hk=>?_⟩
   have:=h.holds b o v hk
   have e':w.heap[b]? =some (.cells cur T (0,0)):=e
   simpa [World.cell?,e'] using this
  ·have h1:=h.items it (.tail _ hi)
   exact⟨h1.1,it.loc (fun b hb=>⟨rfl,funext fun o=>(but_at (h.bag_off it hi b hb) o).symm⟩) h1.2⟩
 lt:=by
  intro it hi b hb
  rcases List.mem_cons.1 hi with rfl | hi
  ·exact h.lt _ (.head _) b hb
  ·exact h.lt it (.tail _ hi) b hb
 nodup:=h.nodup
 drawn:=h.drawn
def KMap.wth (K H:KMap)(B:List Nat):KMap:=fun b o=>if b∈B then H b o else K b o
theorem wth_in {H:KMap}{b:Nat}(h:b∈B):K.wth H B b=H b:=by funext o;exact if_pos h
theorem wth_out {H:KMap}{b:Nat}(h:b∉B):K.wth H B b=K b:=by funext o;exact if_neg h
theorem SH.hp_off {H:KMap}(h:SH w0 K0 M w K (hp B H::L)): ∀it∈L,∀b∈it.gs,b∉B:=fun it hi b hb hB=>by
 have hnd:=h.nodup
 rw [List.flatMap_cons,List.nodup_append] at hnd
 exact hnd.2.2 b hB b (List.mem_flatMap.2 ⟨it,hi,hb⟩) rfl
theorem SH.ofHp {H:KMap}(h:SH w0 K0 M w K (hp B H::L)):KLe K (K.wth H B)∧SH w0 K0 M w (K.wth H B) (bag B::L):=by
 have hle:KLe K (K.wth H B):=fun b o v e=>by
  by_cases hb:b∈B
  ·rw [((h.items _ (.head _)).2 b hb).1 o] at e;cases e
  ·rw [wth_out hb];exact e
 refine⟨hle,⟨h.os,h.tape,h.output,fun b o v e=>?_,h.le.trans hle,h.size,h.old,fun b hb hm=>?_,fun it hi=>?_,fun it hi b hb=>?_,h.nodup,h.drawn⟩⟩
 ·by_cases hb:b∈B
  ·rw [wth_in hb] at e
   obtain⟨_,cur,T,e1,h2⟩:=(h.items _ (.head _)).2 b hb
   have e':w.heap[b]? =some (.cells cur T (0,0)):=e1
   have:=h2 o v e
   simpa [World.cell?,e'] using this
  ·rw [wth_out hb] at e;exact h.holds b o v e
 ·have hn:b∉B:=fun hB=>by
   have:=(h.lt _ (.head _) b hB).2
   rcases this with h1 | h1
   ·omega
   ·exact hm h1
  rw [wth_out hn];exact h.oldK b hb hm
 ·rcases List.mem_cons.1 hi with rfl | hi
  ·refine⟨trivial,fun b hb=>?_⟩
   obtain⟨_,cur,T,e1,_⟩:=(h.items _ (.head _)).2 b hb
   exact⟨cur,T,e1⟩
  ·have h1:=h.items it (.tail _ hi)
   exact⟨h1.1,it.loc (fun b hb=>⟨rfl,(wth_out (h.hp_off it hi b hb)).symm⟩) h1.2⟩
 ·rcases List.mem_cons.1 hi with rfl | hi
  ·exact h.lt _ (.head _) b hb
  ·exact h.lt it (.tail _ hi) b hb
variable {H:KMap}
theorem hp_load {b o:Nat}{v:Value}(hT:TF P T size false zero bytes)(hx:ev E x=some (.pointer (some ⟨b,o,none⟩)))(hS:SH w0 K0 M w K (hp B H::L))(hb:b∈B)(hk:H b o=some v):RV P E w (.load T x) v:=
 rv_load hT hx (cs:=[v]) (fun j d e=>by
  cases j with
  | zero=>
   simp at e;subst e
   obtain⟨_,cur,U,e,h3⟩:=(hS.items _ (.head _)).2 b hb
   have hu:=h3 o _ hk
   have e':w.heap[b]? =some (.cells cur U (0,0)):=e
   simpa [World.cell?,e'] using hu
  | succ j=>simp at e) (.inr ⟨rfl,rfl⟩)
theorem hp_store {b o:Nat}{v v0:Value}(hw:Wanted ops N E gd)(hT:TF P T 1 false zero bytes)(hx:ev E x=some (.pointer (some ⟨b,o,none⟩)))(hy:ev E y=some v)(hone:v.oneCell'=true)(hS:SH w0 K0 M w K (hp B H::L))
  (hb:b∈B)(hk:H b o=some v0)(h: ∀w',SH w0 K0 M w' K (hp B (poke H b o v)::L)→WL P ops Q N rest E w'):WL P ops Q N (⟨none,.store T x y,ty,pos,af,gd⟩::rest) E w:=by
 obtain⟨hKn,cur,U,e,h3⟩:=(hS.items _ (.head _)).2 b hb
 have e':w.heap[b]? =some (.cells cur U (0,0)):=e
 have hu0:=h3 o v0 hk
 have ho:o<cur.size:=(Array.getElem?_eq_some_iff.1 hu0).1
 have hc:=cells_one hone
 have hst:=run_storeCells_obj (P:=P) b o U (0,0) [v] 0 cur w e' (.inl rfl) (by simp;omega) (by simpa using hone)
 have hw':w.setRow b (cur.toList.take (o+0)++[v]++cur.toList.drop (o+0+[v].length)).toArray=w.setRow b (cur.setIfInBounds o v):=by
  congr 1
  apply Array.toList_inj.1
  rw [Array.toList_setIfInBounds,Nat.add_zero,List.set_eq_take_append_cons_drop,if_pos (by simpa using ho)]
  simp
 rw [hw'] at hst
 have hlt:=hS.lt _ (.head _) b hb
 refine wl_do hw (w':=w.setRow b (cur.setIfInBounds o v)) (fun ρ _ _ _ _ _ ha=>?_) (h _ ?_)
 ·have hcl:v.cells.toList=[v]:=by rw [hc]
  have hcs:v.cells.size=1:=by rw [hc];rfl
  simp [execOp,ha x _ hx,ha y _ hy,Instr.storeAt,Instr.sureAddr,storeVar,run_sizeOf hT,hcs,hcl,hst]
 ·have hoth: ∀b',b'≠b→(w.setRow b (cur.setIfInBounds o v)).heap[b']? =w.heap[b']? :=fun b' hb'=>setRow_other w b b' _ hb'
  have hself:(w.setRow b (cur.setIfInBounds o v)).heap[b]? =some (.cells (cur.setIfInBounds o v) U (0,0)):=setRow_heap w b cur _ U (0,0) e'
  have hBM:b∈M∨w0.heap.size≤b:=hlt.2.symm
  refine⟨hS.os,hS.tape,hS.output,fun b' o' v' e1=>?_,hS.le,by have:=hS.size;simpa [World.setRow] using this,fun b' h1 h2=>?_,hS.oldK,fun it hi=>?_,fun it hi b' hb'=>?_,hS.nodup,hS.drawn⟩
  ·have hne:b'≠b:=fun q=>by subst q;rw [hKn] at e1;cases e1
   rw [World.cell?_of_block (w:=w) (a:=⟨b',o',none⟩) (hoth b' hne)]
   exact hS.holds b' o' v' e1
  ·have hne:b'≠b:=fun q=>by
    subst q
    rcases hBM with q | q
    ·exact h2 q
    ·omega
   rw [hoth b' hne];exact hS.old b' h1 h2
  ·rcases List.mem_cons.1 hi with rfl | hi
   ·refine⟨trivial,fun b' hb'=>?_⟩
    obtain⟨g1,cur',U',g2,g3⟩:=(hS.items _ (.head _)).2 b' hb'
    refine⟨g1,?_⟩
    by_cases hq:b'=b
    ·subst hq
     rw [e] at g2
     cases g2
     refine⟨_,U,hself,fun o' v' hk'=>?_⟩
     by_cases ho':o'=o
     ·subst ho'
      rw [poke_same] at hk'
      cases hk'
      rw [Array.getElem?_setIfInBounds_self_of_lt ho]
     ·rw [poke_other (.inr ho')] at hk'
      rw [Array.getElem?_setIfInBounds_ne (Ne.symm ho')]
      exact g3 o' v' hk'
    ·exact⟨cur',U',by show (w.setRow b (cur.setIfInBounds o v)).heap[b']? =_;rw [hoth b' hq];exact g2,fun o' v' hk'=>g3 o' v' (by rw [poke_other (.inl hq)] at hk';exact hk')⟩
   ·have h1:=hS.items it (.tail _ hi)
    refine⟨h1.1,it.loc (fun b' hb'=>⟨?_,rfl⟩) h1.2⟩
    have hne:b'≠b:=fun q=>hS.hp_off it hi b' hb' (q▸hb)
    exact(hoth b' hne).symm
  ·have:b'<w.heap.size∧(w0.heap.size≤b'∨b'∈M):=by
    rcases List.mem_cons.1 hi with rfl | hi
    ·exact hS.lt _ (.head _) b' hb'
    ·exact hS.lt it (.tail _ hi) b' hb'
   exact⟨by simpa [World.setRow] using this.1,this.2⟩
end
def mkRow {α:Type}(step:Int→α→α×Int):Int→List α→List α×Int
 | k,[]=>([],k)
 | k,x::r=>((step k x).1::(mkRow step (step k x).2 r).1,(mkRow step (step k x).2 r).2)
theorem mkRow_len {α:Type}{step:Int→α→α×Int}: ∀(xs:List α) (k:Int),(mkRow step k xs).1.length=xs.length
 | [],_=>rfl
 | x::r,k=>by rw [mkRow,List.length_cons,List.length_cons,mkRow_len r]
theorem mkRow_snoc {α:Type}{step:Int→α→α×Int}{y:α}: ∀(xs:List α) (k:Int),mkRow step k (xs++[y])=((mkRow step k xs).1++[(step (mkRow step k xs).2 y).1],(step (mkRow step k xs).2 y).2)
 | [],k=>rfl
 | x::r,k=>by rw [List.cons_append,mkRow,mkRow_snoc r,mkRow];rfl
def mkTo {α:Type}(step:Int→α→α×Int)(k:Int)(xs:List α)(i:Nat):List α:=(mkRow step k (xs.take i)).1++xs.drop i
def mkAt {α:Type}(step:Int→α→α×Int)(k:Int)(xs:List α)(i:Nat):Int:=(mkRow step k (xs.take i)).2
theorem mkTo_len {α:Type}{step:Int→α→α×Int}{k:Int}{xs:List α}{i:Nat}:(mkTo step k xs i).length=xs.length:=by
 unfold mkTo
 rw [List.length_append,mkRow_len,List.length_take,List.length_drop];omega
theorem mkTo_get {α:Type}{step:Int→α→α×Int}{k j:Int}{xs:List α}{i:Nat}{x:α}(hj:j=(i:Int))(hx:getI xs j=some x):getI (mkTo step k xs i) j=some x:=by
 obtain⟨g0,g1,g2⟩:=getI_some hx
 subst hj
 unfold getI mkTo
 rw [Int.toNat_natCast] at *
 rw [if_pos g0,List.getElem?_append_right (by rw [mkRow_len,List.length_take];omega),mkRow_len,List.length_take,List.getElem?_drop,show i+(i-min i xs.length)=i by omega]
 exact g2
theorem mkTo_next {α:Type}{step:Int→α→α×Int}{k j:Int}{xs:List α}{i:Nat}{x:α}(hj:j=(i:Int))(hx:getI xs j=some x):
  (mkTo step k xs i).set j.toNat (step (mkAt step k xs i) x).1=mkTo step k xs (i+1)∧(step (mkAt step k xs i) x).2=mkAt step k xs (i+1)∧i+1≤xs.length:=by
 obtain⟨g0,g1,g2⟩:=getI_some hx
 subst hj
 rw [Int.toNat_natCast] at *
 have hi:=(List.getElem?_eq_some_iff.1 g2).1
 have ht:xs.take (i+1)=xs.take i++[x]:=by rw [List.take_add_one,g2];rfl
 unfold mkTo mkAt
 rw [ht,mkRow_snoc]
 refine⟨?_,rfl,hi⟩
 rw [List.set_append_right _ _ (by rw [mkRow_len,List.length_take];omega),mkRow_len,List.length_take,show i-min i xs.length=0 by omega,List.drop_eq_getElem_cons hi,List.set_cons_zero,List.append_assoc]
 rfl
theorem mkTo_end {α:Type}{step:Int→α→α×Int}{k:Int}{xs:List α}{i:Nat}(h:xs.length≤i):mkTo step k xs i=(mkRow step k xs).1∧mkAt step k xs i=(mkRow step k xs).2:=by
 unfold mkTo mkAt
 rw [List.take_of_length_le h,List.drop_of_length_le h,List.append_nil]
 exact⟨rfl,rfl⟩
theorem mkAt_all {α:Type}{step:Int→α→α×Int}{k:Int}{xs:List α}:mkAt step k xs xs.length=(mkRow step k xs).2:=by
 unfold mkAt
 rw [List.take_length]
theorem mkAt_succ {α:Type}{step:Int→α→α×Int}{k:Int}{xs:List α}{i:Nat}{x:α}(hx:xs[i]? =some x):mkAt step k xs (i+1)=(step (mkAt step k xs i) x).2:=by
 unfold mkAt
 rw [List.take_add_one,hx,Option.toList_some,mkRow_snoc]
theorem mkRow_get {α:Type}{step:Int→α→α×Int}: ∀{xs:List α} {k:Int} {i:Nat} {x:α},xs[i]? =some x→(mkRow step k xs).1[i]? =some (step (mkAt step k xs i) x).1
 | [],_,_,_,h=>by simp at h
 | y::r,k,0,x,h=>by simp at h;subst h;rfl
 | y::r,k,i+1,x,h=>by
  rw [List.getElem?_cons_succ] at h
  rw [mkRow,List.getElem?_cons_succ,mkRow_get h];rfl
theorem mkAt_nat {α:Type}{step:Int→α→α×Int}{xs:List α}{k B:Nat}(hs: ∀(v:Nat) x,x∈xs→v+B≤9000000000000000000→∃r:Nat,(step (v:Int) x).2=(r:Int)∧r≤v+B)(hk:k+xs.length*B≤9000000000000000000):
  ∀i,i≤xs.length→∃r:Nat,mkAt step (k:Int) xs i=(r:Int)∧r≤k+i*B
 | 0,_=>⟨k,rfl,by omega⟩
 | i+1,h=>by
  obtain⟨r,hr,hle⟩:=mkAt_nat hs hk i (by omega)
  have hb:=Nat.mul_le_mul_right B h
  rw [Nat.add_mul,Nat.one_mul] at hb
  obtain⟨q,hq,hql⟩:=hs r xs[i] (List.getElem_mem (by omega)) (by omega)
  refine⟨q,?_,by rw [Nat.add_mul,Nat.one_mul];omega⟩
  rw [mkAt_succ (List.getElem?_eq_getElem (show i<xs.length by omega)),hr,hq]
def El (H0 H:KMap)(g o sz:Nat)(f:List Nat)(cs:List Value):Prop:=AtK H g o cs∧∀b,b∉f→∀q,b≠g∨q<o∨o+sz≤q→H b q=H0 b q
theorem El.start {H:KMap}{g o sz:Nat}{f:List Nat}{cs:List Value}(h:AtK H g o cs):El H H g o sz f cs:=⟨h,fun _ _ _ _=>rfl⟩
theorem El.poke {H0 H:KMap}{g o sz j:Nat}{f:List Nat}{cs:List Value}{v:Value}(h:El H0 H g o sz f cs)(hj:j<sz):El H0 (poke H g (o+j) v) g o sz f (cs.set j v):=
 ⟨fun i c e=>by
  by_cases hi:j=i
  ·subst hi
   have hl:=(List.getElem?_eq_some_iff.1 e).1
   rw [List.length_set] at hl
   rw [List.getElem?_set_self hl] at e
   cases e;exact poke_same _ _ _ _
  ·rw [List.getElem?_set_ne hi] at e
   rw [poke_other (.inr (by omega))]
   exact h.1 i c e,fun b hb q hq=>by
  rw [poke_other (by omega)]
  exact h.2 b hb q hq⟩
theorem El.sub {H0 H H':KMap}{g o sz:Nat}{f f':List Nat}{cs:List Value}(h:El H0 H g o sz f cs)(hg:g∉f')(hf: ∀b∈f',b∈f)(hs: ∀b,b∉f'→H' b=H b):El H0 H' g o sz f cs:=
 ⟨fun i c e=>by rw [hs g hg];exact h.1 i c e,fun b hb q hq=>by rw [hs b fun hb'=>hb (hf b hb')];exact h.2 b hb q hq⟩
theorem RowO.poke {α:Type}{o:Own α}{H:KMap}{f:List Nat}{v u:Value}{xs:List α}{g p:Nat}(h:RowO o H f v xs)(hg:g∉f):RowO o (poke H g p u) f v xs:=
 h.loc fun b hb i w e=>by rw [poke_other (show b≠g∨i≠p from .inl fun q=>hg (q▸hb))];exact e
theorem RowO.sub {α:Type}{o:Own α}{H H':KMap}{f f':List Nat}{v:Value}{xs:List α}(h:RowO o H f v xs)(hs: ∀b,b∉f'→H' b=H b)(hd: ∀b∈f,b∉f'):RowO o H' f v xs:=h.same fun b hb=>hs b (hd b hb)
theorem off_poke {H H0:KMap}{f:List Nat}{g p:Nat}{v:Value}(h: ∀b,b∉f→H b=H0 b)(hg:g∈f): ∀b,b∉f→Go.Fk.poke H g p v b=H0 b:=fun b hb=>by
 rw [←h b hb];funext q;exact poke_other (show b≠g∨q≠p from .inl fun e=>hb (e▸hg))
theorem off_sub {H H' H0:KMap}{f f':List Nat}(h: ∀b,b∉f→H b=H0 b)(hs: ∀b,b∉f'→H' b=H b)(hf: ∀b∈f',b∈f): ∀b,b∉f→H' b=H0 b:=fun b hb=>by
 rw [hs b fun hb'=>hb (hf b hb'),h b hb]
end Go.Fk
