import Derived.Test.YtfiahfncijjliaaGreatDoorCoreAL
/-
  Blocks that the call has made and owns whole: data that lie in them alone; marks that are written into them. Of no program.
-/
namespace Go.Fk
open Go
set_option linter.unusedSectionVars false
variable [dr:Dr]
section
variable {P:Program}{ops:Array Oper}{Q:Exit→Act→World→Prop}{N:Nat}{E:Env}{w w0 w':World}{K K0 K':KMap}{M B B':List Nat}{L L':List Item}
variable {x y:Operand}{T U:TypeId}{size bytes:Nat}{zero:Value}{agg:Bool}{rest:List Oper}{ty:TypeId}{pos:String}{af:Array Edge}{gd:Option (Nat×Bool)}
def KMap.only (K:KMap)(B:List Nat):KMap:=fun b o=>if b∈B then K b o else none
def KMap.but (K:KMap)(B:List Nat):KMap:=fun b o=>if b∈B then none else K b o
theorem only_at {b:Nat}(h:b∈B)(o:Nat):K.only B b o=K b o:=if_pos h
theorem but_in {b:Nat}(h:b∈B)(o:Nat):K.but B b o=none:=if_pos h
theorem but_at {b:Nat}(h:b∉B)(o:Nat):K.but B b o=K b o:=if_neg h
theorem only_some {b o:Nat}{v:Value}(e:K.only B b o=some v):b∈B∧K b o=some v:=by
 unfold KMap.only at e
 split at e
 ·rename_i hb;exact⟨hb,e⟩
 ·cases e
theorem only_le:KLe (K.only B) K:=fun b o v e=>by
 unfold KMap.only at e
 split at e
 ·exact e
 ·cases e
theorem but_le:KLe (K.but B) K:=fun b o v e=>by
 unfold KMap.but at e
 split at e
 ·cases e
 ·exact e
theorem only_mono (h:KLe K K')(hB: ∀b∈B,b∈B'):KLe (K.only B) (K'.only B'):=fun b o v e=>by
 unfold KMap.only at e ⊢
 split at e
 ·rename_i hb
  rw [if_pos (hB b hb)];exact h b o v e
 ·cases e
theorem le_but (hl:KLe K0 K)(hh:Holds K0 w0)(hB: ∀b∈B,w0.heap.size≤b):KLe K0 (K.but B):=fun b o v e=>by
 have hlt:=hh.lt e
 have hn:b∉B:=fun hb=>by have:=hB b hb;omega
 rw [but_at hn];exact hl b o v e
theorem only_but2 {C:List Nat}(hd: ∀b∈C,b∉B):KLe (K.only C) ((K.but B).only C):=fun b o v e=>by
 obtain⟨hb,e⟩:=only_some e
 rw [only_at hb,but_at (hd b hb)];exact e
def Ty.fix {α:Type}(t:Ty α)(Kx:KMap):Ty α where
 size:=t.size
 agg:=t.agg
 rel:=fun _ v x=>t.rel Kx v x
 mono:=fun _ _ _ h=>h
 shape:=t.shape
 size_eq:=t.size_eq
 ones:=t.ones
theorem SliceAt.unfix {α:Type}{t:Ty α}{Kx:KMap}{a:Option Addr}{n c:Nat}{xs:List α}(h:SliceAt (t.fix Kx) K a n c xs)(hx:KLe Kx (K.only B))(ha:0<c→∀b o,a=some ⟨b,o,none⟩→b∈B):SliceAt t (K.only B) a n c xs:=
 ⟨h.1,h.2.1,h.2.2.1,fun hc=>let ⟨b,o,e1,h5⟩:=h.2.2.2 hc;⟨b,o,e1,fun i x hi=>let ⟨u,r,k⟩:=h5 i x hi;⟨u,t.mono hx r,fun j d e=>by rw [only_at (ha hc b o e1)];exact k j d e⟩⟩⟩
def Ty.flat {α:Type}(t:Ty α):Prop:=∀{K K':KMap} {v:Value} {x:α},t.rel K v x→t.rel K' v x
theorem SliceAt.only_flat {α:Type}{t:Ty α}(hf:t.flat){a:Option Addr}{n c:Nat}{xs:List α}(h:SliceAt t K a n c xs)(ha:0<c→∀b o,a=some ⟨b,o,none⟩→b∈B):SliceAt t (K.only B) a n c xs:=
 ⟨h.1,h.2.1,h.2.2.1,fun hc=>let ⟨b,o,e1,h5⟩:=h.2.2.2 hc;⟨b,o,e1,fun i x hi=>let ⟨u,r,k⟩:=h5 i x hi;⟨u,hf r,fun j d e=>by rw [only_at (ha hc b o e1)];exact k j d e⟩⟩⟩
def bag (B:List Nat):Item:=⟨B,True,fun H _=>∀b∈B,∃cur T,H b=some (.cells cur T (0,0)),fun h hok b hb=>by rw [←(h b hb).1];exact hok b hb⟩
theorem SH.bag0 (h:SH w0 K0 M w K L):SH w0 K0 M w K (bag []::L):=
 ⟨h.os,h.tape,h.output,h.holds,h.le,h.size,h.old,h.oldK,by
  intro it hi
  rcases List.mem_cons.1 hi with rfl | hi
  ·exact⟨trivial,fun b hb=>by cases hb⟩
  ·exact h.items it hi,by
  intro it hi b hb
  rcases List.mem_cons.1 hi with rfl | hi
  ·cases hb
  ·exact h.lt it hi b hb,by
  rw [List.flatMap_cons];exact h.nodup,h.drawn⟩
theorem SH.bagJoin (h:SH w0 K0 M w K (bag B::bag B'::L)):SH w0 K0 M w K (bag (B++B')::L):=
 ⟨h.os,h.tape,h.output,h.holds,h.le,h.size,h.old,h.oldK,by
  intro it hi
  rcases List.mem_cons.1 hi with rfl | hi
  ·refine⟨trivial,fun b hb=>?_⟩
   rcases List.mem_append.1 hb with hb | hb
   ·exact(h.items _ (.head _)).2 b hb
   ·exact(h.items _ (.tail _ (.head _))).2 b hb
  ·exact h.items it (.tail _ (.tail _ hi)),by
  intro it hi b hb
  rcases List.mem_cons.1 hi with rfl | hi
  ·rcases List.mem_append.1 hb with hb | hb
   ·exact h.lt _ (.head _) b hb
   ·exact h.lt _ (.tail _ (.head _)) b hb
  ·exact h.lt it (.tail _ (.tail _ hi)) b hb,by
  have:=h.nodup
  rw [List.flatMap_cons,List.flatMap_cons,←List.append_assoc] at this
  rw [List.flatMap_cons];exact this,h.drawn⟩
theorem SH.bagTail {a:Option Addr}{n c sz:Nat}(h:SH w0 K0 M w K (tail (.slice a n c) T sz::L)): ∃B,SH w0 K0 M w K (bag B::L)∧(0<c→∀b o,a=some ⟨b,o,none⟩→b∈B):=by
 refine⟨(tail (.slice a n c) T sz).gs,⟨h.os,h.tape,h.output,h.holds,h.le,h.size,h.old,h.oldK,?_,?_,h.nodup,h.drawn⟩,fun hc b o ha=>?_⟩
 ·intro it hi
  rcases List.mem_cons.1 hi with rfl | hi
  ·refine⟨trivial,fun b hb=>?_⟩
   have h1:=(h.items _ (.head _)).2 b (by simpa [tail,one] using hb)
   obtain⟨g,n',cap,cur,_,e,_⟩:=h1
   exact⟨cur,T,e⟩
  ·exact h.items it (.tail _ hi)
 ·intro it hi b hb
  rcases List.mem_cons.1 hi with rfl | hi
  ·exact h.lt _ (.head _) b hb
  ·exact h.lt it (.tail _ hi) b hb
 ·have hs:=(h.items _ (.head _)).1
  rcases hs with hs | ⟨g,n',cap,hs,_⟩
  ·cases hs;omega
  ·cases hs
   cases ha
   simp [tail,one,Value.ownBlock]
theorem SH.bag_new (h:SH w0 K0 [] w K (bag B::L)): ∀b∈B,w0.heap.size≤b∧b<w.heap.size:=fun b hb=>by
 have:=h.lt _ (.head _) b hb
 exact⟨this.2.resolve_right (by simp),this.1⟩
theorem SH.bag_off (h:SH w0 K0 M w K (bag B::L)): ∀it∈L,∀b∈it.gs,b∉B:=fun it hi b hb hB=>by
 have hnd:=h.nodup
 rw [List.flatMap_cons,List.nodup_append] at hnd
 exact hnd.2.2 b hB b (List.mem_flatMap.2 ⟨it,hi,hb⟩) rfl
theorem SH.flat_but {α:Type}{t:Ty α}(hf:t.flat){a:Option Addr}{n c sz:Nat}{xs:List α}(h:SH w0 K0 M w K (bag B::tail (.slice a n c) T sz::L))(hs:SliceAt t K a n c xs):SliceAt t (K.but B) a n c xs:=
 ⟨hs.1,hs.2.1,hs.2.2.1,fun hc=>let ⟨b,o,e1,h5⟩:=hs.2.2.2 hc;⟨b,o,e1,fun i x hi=>let ⟨u,r,k⟩:=h5 i x hi;⟨u,hf r,fun j d e=>by
  have hn:b∉B:=by
   refine h.bag_off _ (.head _) b ?_
   have hs:=(h.items _ (.tail _ (.head _))).1
   rcases hs with hs | ⟨g,n',cap,hs,_⟩
   ·cases hs;omega
   ·cases hs
    cases e1
    simp [tail,one,Value.ownBlock]
  rw [but_at hn];exact k j d e⟩⟩⟩
def hdrV:Value→Bool
 | .slice _ _ _=>true
 | _=>false
def mkI (B:List Nat)(KM:KMap):Item:=⟨B,True,fun H K=>∀b∈B,(∀o,K b o=none)∧∃cur T,H b=some (.cells cur T (0,0))∧∀o v,KM b o=some v→∃u,cur[o]? =some u∧(hdrV v=true→u=v),
 fun h hok b hb=>by
  obtain⟨h1,cur,T,h2,h3⟩:=hok b hb
  exact⟨fun o=>by rw [←(h b hb).2];exact h1 o,cur,T,by rw [←(h b hb).1];exact h2,h3⟩⟩
theorem SH.toMk (h0:Holds K0 w0)(h:SH w0 K0 [] w K (bag B::L)):SH w0 K0 [] w (K.but B) (mkI B K::L) where
 os:=h.os
 tape:=h.tape
 output:=h.output
 holds:=fun b o v e=>h.holds b o v (but_le b o v e)
 le:=le_but h.le h0 fun b hb=>(h.bag_new b hb).1
 size:=h.size
 old:=h.old
 oldK:=fun b hb hm=>by
  funext o
  rw [but_at (fun hB=>by have:=(h.bag_new b hB).1;omega),h.oldK b hb hm]
 items:=by
  intro it hi
  rcases List.mem_cons.1 hi with rfl | hi
  ·refine⟨trivial,fun b hb=>⟨fun o=>but_in hb o,?_⟩⟩
   obtain⟨cur,T,e⟩:=(h.items _ (.head _)).2 b hb
   refine⟨cur,T,e,fun o v hk=>⟨v,?_,fun _=>rfl⟩⟩
   have:=h.holds b o v hk
   have e':w.heap[b]? =some (.cells cur T (0,0)):=e
   simpa [World.cell?,e'] using this
  ·have h1:=h.items it (.tail _ hi)
   exact⟨h1.1,it.loc (fun b hb=>⟨rfl,funext fun o=>(but_at (h.bag_off it hi b hb) o).symm⟩) h1.2⟩
 lt:=by
  intro it hi b hb
  rcases List.mem_cons.1 hi with rfl | hi
  ·exact h.lt _ (.head _) b hb
  ·exact h.lt it (.tail _ hi) b hb
 nodup:=h.nodup
 drawn:=h.drawn
variable {KM:KMap}
theorem mk_load {b o n c:Nat}{a:Option Addr}(hT:TF P T size false zero bytes)(hx:ev E x=some (.pointer (some ⟨b,o,none⟩)))(hS:SH w0 K0 M w K (mkI B KM::L))(hk:KM.only B b o=some (.slice a n c)):RV P E w (.load T x) (.slice a n c):=
 have hb:=(only_some hk).1
 have hk:=(only_some hk).2
 rv_load hT hx (cs:=[.slice a n c]) (fun j d e=>by
  cases j with
  | zero=>
   simp at e;subst e
   obtain⟨_,cur,U,e,h3⟩:=(hS.items _ (.head _)).2 b hb
   obtain⟨u,hu,hv⟩:=h3 o _ hk
   have hv':=hv rfl
   subst hv'
   have e':w.heap[b]? =some (.cells cur U (0,0)):=e
   simpa [World.cell?,e'] using hu
  | succ j=>simp at e) (.inr ⟨rfl,rfl⟩)
theorem mk_store {b o:Nat}{v v0:Value}(hw:Wanted ops N E gd)(hT:TF P T 1 false zero bytes)(hx:ev E x=some (.pointer (some ⟨b,o,none⟩)))(hy:ev E y=some v)(hone:v.oneCell'=true)(hS:SH w0 K0 M w K (mkI B KM::L))
  (hk:KM.only B b o=some v0)(hh:hdrV v0=false)(h: ∀w',SH w0 K0 M w' K (mkI B KM::L)→WL P ops Q N rest E w'):WL P ops Q N (⟨none,.store T x y,ty,pos,af,gd⟩::rest) E w:=by
 obtain⟨hb,hk⟩:=only_some hk
 obtain⟨hKn,cur,U,e,h3⟩:=(hS.items _ (.head _)).2 b hb
 have e':w.heap[b]? =some (.cells cur U (0,0)):=e
 obtain⟨u0,hu0,_⟩:=h3 o v0 hk
 have ho:o<cur.size:=(Array.getElem?_eq_some_iff.1 hu0).1
 have hc:=cells_one hone
 have hst:=run_storeCells_obj (P:=P) b o U (0,0) [v] 0 cur w e' (.inl rfl) (by simp;omega) (by simpa using hone)
 have hw':w.setRow b (cur.toList.take (o+0)++[v]++cur.toList.drop (o+0+[v].length)).toArray=w.setRow b (cur.setIfInBounds o v):=by
  congr 1
  apply Array.toList_inj.1
  rw [Array.toList_setIfInBounds,Nat.add_zero,List.set_eq_take_append_cons_drop,if_pos (by simpa using ho)]
  simp
 rw [hw'] at hst
 have hlt:=hS.lt _ (.head _) b hb
 refine wl_do hw (w':=w.setRow b (cur.setIfInBounds o v)) (fun ρ _ _ _ _ _ ha=>?_) (h _ ?_)
 ·have hcl:v.cells.toList=[v]:=by rw [hc]
  have hcs:v.cells.size=1:=by rw [hc];rfl
  simp [execOp,ha x _ hx,ha y _ hy,Instr.storeAt,Instr.sureAddr,storeVar,run_sizeOf hT,hcs,hcl,hst]
 ·have hoth: ∀b',b'≠b→(w.setRow b (cur.setIfInBounds o v)).heap[b']? =w.heap[b']? :=fun b' hb'=>setRow_other w b b' _ hb'
  have hself:(w.setRow b (cur.setIfInBounds o v)).heap[b]? =some (.cells (cur.setIfInBounds o v) U (0,0)):=setRow_heap w b cur _ U (0,0) e'
  have hBM:b∈M∨w0.heap.size≤b:=hlt.2.symm
  refine⟨hS.os,hS.tape,hS.output,fun b' o' v' e1=>?_,hS.le,by have:=hS.size;simpa [World.setRow] using this,fun b' h1 h2=>?_,hS.oldK,fun it hi=>?_,fun it hi b' hb'=>?_,hS.nodup,hS.drawn⟩
  ·have hne:b'≠b:=fun q=>by subst q;rw [hKn] at e1;cases e1
   rw [World.cell?_of_block (w:=w) (a:=⟨b',o',none⟩) (hoth b' hne)]
   exact hS.holds b' o' v' e1
  ·have hne:b'≠b:=fun q=>by
    subst q
    rcases hBM with q | q
    ·exact h2 q
    ·omega
   rw [hoth b' hne];exact hS.old b' h1 h2
  ·rcases List.mem_cons.1 hi with rfl | hi
   ·refine⟨trivial,fun b' hb'=>?_⟩
    obtain⟨g1,cur',U',g2,g3⟩:=(hS.items _ (.head _)).2 b' hb'
    refine⟨g1,?_⟩
    by_cases hq:b'=b
    ·subst hq
     rw [e] at g2
     cases g2
     refine⟨_,U,hself,fun o' v' hk'=>?_⟩
     obtain⟨u,hu,hv⟩:=g3 o' v' hk'
     by_cases ho':o=o'
     ·subst ho'
      rw [hk] at hk'
      cases hk'
      refine⟨v,by rw [Array.getElem?_setIfInBounds_self_of_lt ho],fun q=>?_⟩
      rw [hh] at q;cases q
     ·exact⟨u,by rw [Array.getElem?_setIfInBounds_ne ho'];exact hu,hv⟩
    ·exact⟨cur',U',by show (w.setRow b (cur.setIfInBounds o v)).heap[b']? =_;rw [hoth b' hq];exact g2,g3⟩
   ·have h1:=hS.items it (.tail _ hi)
    refine⟨h1.1,it.loc (fun b' hb'=>⟨?_,rfl⟩) h1.2⟩
    have hnd:=hS.nodup
    rw [List.flatMap_cons,List.nodup_append] at hnd
    have hne:b'≠b:=fun q=>hnd.2.2 b hb b' (List.mem_flatMap.2 ⟨it,hi,hb'⟩) q.symm
    exact(hoth b' hne).symm
  ·have:=hS.lt it hi b' hb'
   exact⟨by simpa [World.setRow] using this.1,this.2⟩
end
end Go.Fk
namespace Go.Fk
open Go
set_option linter.unusedSectionVars false
variable [dr:Dr]
section
variable {P:Program}{ops:Array Oper}{Q:Exit→Act→World→Prop}{N:Nat}{E:Env}{w w0 w':World}{K K0 K':KMap}{M B B':List Nat}{L L':List Item}
variable {x y:Operand}{T U:TypeId}{size bytes:Nat}{zero:Value}{agg:Bool}{rest:List Oper}{ty:TypeId}{pos:String}{af:Array Edge}{gd:Option (Nat×Bool)}
def RowN {α:Type}(t:Ty α)(K:KMap)(cs:List Value)(xs:List α):Prop:=
 xs.length*t.size≤cs.length∧∀(i:Nat) x,xs[i]? =some x→∃u,t.rel K u x∧∀j d,u.cells.toList[j]? =some d→cs[i*t.size+j]? =some d
theorem RowN.mono {α:Type}{t:Ty α}(h:KLe K K'){cs:List Value}{xs:List α}(p:RowN t K cs xs):RowN t K' cs xs:=
 ⟨p.1,fun i x hx=>let ⟨u,hu,hk⟩:=p.2 i x hx;⟨u,t.mono h hu,hk⟩⟩
theorem RowN.set1 {α:Type}{t:Ty α}{cs:List Value}{xs:List α}{i off:Nat}{v:Value}{e e':α}(p:RowN t K cs xs)(hx:xs[i]? =some e)(hoff:off<t.size)
  (he: ∀u,t.rel K u e→∃u',t.rel K u' e'∧u'.cells.toList=u.cells.toList.set off v):RowN t K (cs.set (i*t.size+off) v) (xs.set i e'):=by
 have hi:=(List.getElem?_eq_some_iff.1 hx).1
 refine⟨by rw [List.length_set,List.length_set];exact p.1,fun k z hz=>?_⟩
 by_cases hk:i=k
 ·subst hk
  rw [List.getElem?_set_self hi] at hz
  cases hz
  obtain⟨u,hu,hc⟩:=p.2 i e hx
  obtain⟨u',hu',hcl⟩:=he u hu
  refine⟨u',hu',fun j d hd=>?_⟩
  rw [hcl] at hd
  have hle:(i+1)*t.size≤xs.length*t.size:=Nat.mul_le_mul_right _ hi
  rw [Nat.add_mul,Nat.one_mul] at hle
  have hp:=p.1
  by_cases hj:off=j
  ·subst hj
   have hlen:off<u.cells.toList.length:=by
    have:=(List.getElem?_eq_some_iff.1 hd).1
    rwa [List.length_set] at this
   rw [List.getElem?_set_self hlen] at hd
   cases hd
   rw [List.getElem?_set_self (by omega)]
  ·rw [List.getElem?_set_ne hj] at hd
   rw [List.getElem?_set_ne (by omega)]
   exact hc j d hd
 ·rw [List.getElem?_set_ne hk] at hz
  obtain⟨u,hu,hc⟩:=p.2 k z hz
  refine⟨u,hu,fun j d hd=>?_⟩
  have hj:=(List.getElem?_eq_some_iff.1 hd).1
  have hsz:u.cells.toList.length=t.size:=by simpa using t.size_eq hu
  have hne:i*t.size+off≠k*t.size+j:=fun q=>by
   rcases Nat.lt_or_gt_of_ne hk with h | h
   ·have:=Nat.mul_le_mul_right t.size h
    rw [Nat.succ_mul] at this
    omega
   ·have:=Nat.mul_le_mul_right t.size h
    rw [Nat.succ_mul] at this
    omega
  rw [List.getElem?_set_ne hne]
  exact hc j d hd
theorem splice_one (cs:List Value)(o:Nat)(v:Value)(h:o<cs.length):splice cs o [v]=cs.set o v:=by
 unfold splice
 rw [List.set_eq_take_append_cons_drop,if_pos h,List.append_assoc]
 rfl
theorem wl_storeN {α:Type}{t:Ty α}{g off:Nat}{i:Int}{cs:List Value}{xs:List α}{v:Value}{e e':α}(hw:Wanted ops N E gd)(hT:TF P T 1 false zero bytes)(hx:ev E x=some (.pointer (some ⟨g,i.toNat*t.size+off,none⟩)))(hy:ev E y=some v)(hone:v.oneCell'=true)
  (hS:SH w0 K0 M w K (obj g cs U::L))(hr:RowN t K cs xs)(hz:getI xs i=some e)(hoff:off<t.size)(he: ∀u,t.rel K u e→∃u',t.rel K u' e'∧u'.cells.toList=u.cells.toList.set off v)
  (h: ∀cs' w',RowN t K cs' (xs.set i.toNat e')→cs'.length=cs.length→SH w0 K0 M w' K (obj g cs' U::L)→WL P ops Q N rest E w'):WL P ops Q N (⟨none,.store T x y,ty,pos,af,gd⟩::rest) E w:=by
 obtain⟨g0,g1,g2⟩:=getI_some hz
 have hi:=(List.getElem?_eq_some_iff.1 g2).1
 have hle:(i.toNat+1)*t.size≤xs.length*t.size:=Nat.mul_le_mul_right _ hi
 rw [Nat.add_mul,Nat.one_mul] at hle
 have hp:=hr.1
 have hc:=cells_one hone
 have hlt:i.toNat*t.size+off<cs.length:=by omega
 refine wl_store (cs':=cs.set (i.toNat*t.size+off) v) (v:=v) hw hT hx hy (by rw [hc];rfl) (by rw [hc];simpa using hone) hS (by rw [Nat.ble_eq];omega) (by rw [hc];exact splice_one cs _ v hlt) fun w' hS'=>?_
 exact h _ w' (hr.set1 g2 hoff he) (by rw [List.length_set]) hS'
theorem SH.thaw {α:Type}{t:Ty α}(hf:t.flat){g n c:Nat}{xs:List α}(h0:Holds K0 w0)(h:SH w0 K0 [] w K (tail (.slice (some ⟨g,0,none⟩) n c) U t.size::L))(hs:SliceAt t K (some ⟨g,0,none⟩) n c xs):
  ∃cs,SH w0 K0 [] w (K.but [g]) (obj g cs U::L)∧RowN t (K.but [g]) cs xs∧cs.length=c*t.size:=by
 obtain⟨g',n',cap,cur,hv,hcur,hsz,_⟩:=(h.items _ (.head _)).2 g rfl
 cases hv
 have hcur':w.heap[g]? =some (.cells cur U (0,0)):=hcur
 have hlt:=h.lt _ (.head _) g (by simp [tail,one,Value.ownBlock])
 have hge:w0.heap.size≤g:=hlt.2.resolve_right (by simp)
 have hoff: ∀it∈L,∀b∈it.gs,b∉[g]:=fun it hi b hb q=>by
  have hnd:=h.nodup
  rw [List.flatMap_cons,List.nodup_append] at hnd
  exact hnd.2.2 g (by simp [tail,one,Value.ownBlock]) b (List.mem_flatMap.2 ⟨it,hi,hb⟩) (List.mem_singleton.1 q).symm
 refine⟨cur.toList,⟨h.os,h.tape,h.output,fun b o v e=>h.holds b o v (but_le b o v e),le_but h.le h0 fun b hb=>by rw [List.mem_singleton.1 hb];exact hge,h.size,h.old,fun b hb hm=>?_,fun it hi=>?_,fun it hi b hb=>?_,h.nodup,h.drawn⟩,⟨?_,fun i x hx=>?_⟩,by simpa using hsz⟩
 ·funext o
  rw [but_at (fun q=>by rw [List.mem_singleton.1 q] at hb;omega),h.oldK b hb hm]
 ·rcases List.mem_cons.1 hi with rfl | hi
  ·refine⟨trivial,fun b hb=>?_⟩
   cases hb
   exact⟨⟨by simpa using hcur,.inl rfl⟩,fun o=>but_in (List.mem_singleton.2 rfl) o⟩
  ·have h1:=h.items it (.tail _ hi)
   exact⟨h1.1,it.loc (fun b hb=>⟨rfl,funext fun o=>(but_at (hoff it hi b hb) o).symm⟩) h1.2⟩
 ·rcases List.mem_cons.1 hi with rfl | hi
  ·have:b=g:=by simpa [obj,one] using hb
   subst this;exact hlt
  ·exact h.lt it (.tail _ hi) b hb
 ·have hcl:cur.toList.length=c*t.size:=by simpa using hsz
  rw [hcl,←hs.1]
  exact Nat.mul_le_mul_right _ hs.2.1
 ·have hlen:=(List.getElem?_eq_some_iff.1 hx).1
  have h1:=hs.1
  have h2:=hs.2.1
  obtain⟨b,o,e1,h5⟩:=hs.2.2.2 (by omega)
  cases e1
  obtain⟨u,hu,hk⟩:=h5 i x hx
  refine⟨u,hf hu,fun j d hd=>?_⟩
  have:=h.holds _ _ _ (hk j d hd)
  rw [Nat.zero_add] at this
  simpa [World.cell?,hcur'] using this
theorem SH.refreeze {α:Type}{t:Ty α}{g n c:Nat}{cs:List Value}{xs:List α}(h:SH w0 K0 M w K (obj g cs U::L))(hr:RowN t K cs xs)(hn:n=xs.length)(hc:n≤c)(hm:c≤maxLen)(hl:cs.length=c*t.size):
  ∃K',KLe K K'∧SliceAt t K' (some ⟨g,0,none⟩) n c xs∧SH w0 K0 M w K' (tail (.slice (some ⟨g,0,none⟩) n c) U t.size::L):=by
 obtain⟨e,_⟩:=h.obj_at
 have hnone:=((h.items _ (List.mem_cons_self ..)).2 g rfl).2
 have hlt:=h.own
 have hle:KLe K (K.put g (fun o=>if o<n*t.size then cs[o]? else none)):=fun b o v e'=>by
  by_cases hb:b=g
  ·rw [hb,hnone] at e';cases e'
  ·rw [K.put_other _ hb];exact e'
 refine⟨_,hle,SliceAt.of_cells hn hc hm (fun i z hz=>?_),?_⟩
 ·obtain⟨u,hu,hk⟩:=hr.2 i z hz
  have hi:=(List.getElem?_eq_some_iff.1 hz).1
  have hus:u.cells.toList.length=t.size:=by simpa using t.size_eq hu
  have hle2:(i+1)*t.size≤xs.length*t.size:=Nat.mul_le_mul_right _ hi
  rw [Nat.add_mul,Nat.one_mul] at hle2
  refine⟨u,t.mono hle hu,fun j d e=>?_⟩
  have hj:=(List.getElem?_eq_some_iff.1 e).1
  rw [K.put_same,if_pos (by rw [hn];omega)];exact hk j d e
 ·refine h.drop.step (w':=w) rfl rfl rfl (Nat.le_refl _) (by omega) (fun b _ _=>rfl) hlt.1 hlt.2 h.apart (fun b hb=>K.put_other _ hb) (fun o v e=>hle g o v e)
   (fun o v e=>?_) rfl ⟨.inr ⟨g,_,_,rfl,hc,hm⟩,g,_,_,_,rfl,e,by simpa using hl,fun i hi=>?_⟩
  ·rw [K.put_same] at e
   split at e
   ·rw [h.obj_cell];exact e
   ·cases e
  ·rw [K.put_same,if_neg (by omega)]
theorem SH.tailBlock {a:Option Addr}{n c sz:Nat}(h:SH w0 K0 M w K (tail (.slice a n c) T sz::L)):(a=none∧n=0∧c=0)∨∃g,a=some ⟨g,0,none⟩∧n≤c∧c≤maxLen:=by
 rcases (h.items _ (.head _)).1 with hs | ⟨g,n',cap,hs,h1,h2⟩
 ·cases hs;exact .inl ⟨rfl,rfl,rfl⟩
 ·cases hs;exact .inr ⟨g,rfl,h1,h2⟩
theorem SH.mkNil (h:SH w0 K0 M w K L)(KM:KMap):SH w0 K0 M w K (mkI [] KM::L):=
 ⟨h.os,h.tape,h.output,h.holds,h.le,h.size,h.old,h.oldK,by
  intro it hi
  rcases List.mem_cons.1 hi with rfl | hi
  ·exact⟨trivial,fun b hb=>by cases hb⟩
  ·exact h.items it hi,by
  intro it hi b hb
  rcases List.mem_cons.1 hi with rfl | hi
  ·cases hb
  ·exact h.lt it hi b hb,by
  rw [List.flatMap_cons];exact h.nodup,h.drawn⟩
theorem xmark_call {α:Type}{t:Ty α}(hf:t.flat){f:Nat}{a:Option Addr}{n c:Nat}{xs ys:List α}{k r:Int}(h0:Holds K0 w0)(hS:SH w0 K0 [] w K (tail (.slice a n c) U t.size::L))(hs:SliceAt t K a n c xs)(hy:ys.length=xs.length)
  (hx: ∀(g:Nat) (cs:List Value) (K1:KMap),SH w K1 (List.flatMap Item.gs [obj g cs U]) w K1 [obj g cs U]→RowN t K1 cs xs→Calls P f #[.slice (some ⟨g,0,none⟩) n c,.int .i64 k] w fun e w'=>∃cs' K2,e= .returned (.int .i64 r)∧SH w K1 (List.flatMap Item.gs [obj g cs U]) w' K2 [obj g cs' U]∧RowN t K2 cs' ys∧cs'.length=cs.length∧rng64 r)
  (hnil:n=0→∀(K1:KMap),SH w K1 (List.flatMap Item.gs [mkI [] K1]) w K1 [mkI [] K1]→Calls P f #[.slice none 0 0,.int .i64 k] w fun e w'=>∃K2,e= .returned (.int .i64 r)∧SH w K1 (List.flatMap Item.gs [mkI [] K1]) w' K2 [mkI [] K1]∧rng64 r):
  Calls P f #[.slice a n c,.int .i64 k] w fun e w'=>∃K',e= .returned (.int .i64 r)∧SH w0 K0 [] w' K' (tail (.slice a n c) U t.size::L)∧SliceAt t K' a n c ys∧KLe (K.but (tail (.slice a n c) U t.size).gs) K'∧rng64 r:=by
 rcases hS.tailBlock with ⟨rfl,rfl,rfl⟩ | ⟨g,rfl,hnc,hcm⟩
 ·have hm:=hS.mkNil K
  refine(hnil rfl K (SH.enter (Lin:=[mkI [] K]) hm)).mono fun e w' ⟨K2,he,h2,hr⟩=>?_
  have hl:xs.length=0:=hs.1.symm
  have hy0:ys=[]:=List.length_eq_zero_iff.1 (by omega)
  subst hy0
  refine⟨K2,he,(SH.call (Lin:=[mkI [] K]) hm h2).drop,⟨rfl,Nat.le_refl _,Nat.zero_le _,fun q=>by omega⟩,but_le.trans h2.le,hr⟩
 ·obtain⟨cs,h1,h2,h3⟩:=hS.thaw hf h0 hs
  refine(hx g cs _ (SH.enter (Lin:=[obj g cs U]) h1) h2).mono fun e w' ⟨cs',K2,he,h4,h5,h6,hr⟩=>?_
  have h7:=SH.call (Lin:=[obj g cs U]) h1 h4
  obtain⟨K3,g1,g2,g3⟩:=SH.refreeze h7 h5 (by rw [hy];exact hs.1) hnc hcm (by rw [h6];exact h3)
  exact⟨K3,he,g3,g2,(h4.le).trans g1,hr⟩
theorem SH.tail_new {v:Value}{sz:Nat}(h:SH w0 K0 [] w K (tail v T sz::L)): ∀b∈(tail v T sz).gs,w0.heap.size≤b:=fun b hb=>(h.lt _ (.head _) b hb).2.resolve_right (by simp)
theorem w64_next {i:Nat}(h:i<maxLen):w64 ((i:Int)+(1:Int))=((i+1:Nat):Int):=by
 have h':i<9223372036854775807:=h
 rw [w64_of ⟨by omega,by omega⟩];omega
theorem mid_get {α:Type}{ms xs:List α}{j:Int}{i:Nat}{x:α}(hj:j=(i:Int))(hl:ms.length=xs.length)(hx:getI xs j=some x):getI (ms.take i++xs.drop i) j=some x:=by
 obtain⟨g0,g1,g2⟩:=getI_some hx
 subst hj
 unfold getI
 rw [Int.toNat_natCast] at *
 rw [if_pos g0,List.getElem?_append_right (by rw [List.length_take];omega),List.length_take,List.getElem?_drop]
 rw [show i+(i-min i ms.length)=i by omega]
 exact g2
theorem set_get {α:Type}{l:List α}{j:Int}{x y:α}(h:getI l j=some x):getI (l.set j.toNat y) j=some y:=by
 obtain⟨g0,g1,g2⟩:=getI_some h
 unfold getI
 rw [if_pos g0,List.getElem?_set_self (List.getElem?_eq_some_iff.1 g2).1]
theorem mid_set1 {α:Type}{ms xs:List α}{j:Int}{i:Nat}{x z:α}(hj:j=(i:Int))(hl:ms.length=xs.length)(hx:getI xs j=some x)(hz:ms[i]? =some z):(ms.take i++xs.drop i).set j.toNat z=ms.take (i+1)++xs.drop (i+1):=by
 obtain⟨g0,g1,g2⟩:=getI_some hx
 subst hj
 rw [Int.toNat_natCast] at *
 have hi:=(List.getElem?_eq_some_iff.1 g2).1
 rw [List.set_append_right _ _ (by rw [List.length_take];omega),List.length_take,show i-min i ms.length=0 by omega,List.drop_eq_getElem_cons hi,List.set_cons_zero,List.take_add_one,hz,List.append_assoc]
 rfl
theorem mid_set2 {α:Type}{ms xs:List α}{j:Int}{i:Nat}{x y z:α}(hj:j=(i:Int))(hl:ms.length=xs.length)(hx:getI xs j=some x)(hz:ms[i]? =some z):((ms.take i++xs.drop i).set j.toNat y).set j.toNat z=ms.take (i+1)++xs.drop (i+1):=by
 rw [List.set_set];exact mid_set1 hj hl hx hz
theorem mid_end {α:Type}{ms xs:List α}{i:Nat}(hl:ms.length=xs.length)(h:xs.length≤i):ms.take i++xs.drop i=ms:=by
 rw [List.take_of_length_le (by omega),List.drop_of_length_le h,List.append_nil]
end
end Go.Fk
