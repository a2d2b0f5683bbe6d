/-
  Rows of the call's own whose cells are marked one by one, and read again. Of no program.
-/
import Derived.Test.YtepcfgnicnibnaaGreatCoreMk
namespace Go.Fk
open Go
set_option linter.unusedSectionVars false
variable [dr:Dr]
section
variable {P:Program}{ops:Array Oper}{Q:Exit→Act→World→Prop}{N:Nat}{E:Env}{w w0 w':World}{K K0 K':KMap}{M B B':List Nat}{L L':List Item}
variable {x y:Operand}{T U:TypeId}{size bytes:Nat}{zero:Value}{agg:Bool}{rest:List Oper}{ty:TypeId}{pos:String}{af:Array Edge}{gd:Option (Nat×Bool)}
def RowN {α:Type}(t:Ty α)(K:KMap)(cs:List Value)(xs:List α):Prop:=
 xs.length*t.size≤cs.length∧∀(i:Nat) x,xs[i]? =some x→∃u,t.rel K u x∧∀j d,u.cells.toList[j]? =some d→cs[i*t.size+j]? =some d
theorem RowN.mono {α:Type}{t:Ty α}(h:KLe K K'){cs:List Value}{xs:List α}(p:RowN t K cs xs):RowN t K' cs xs:=
 ⟨p.1,fun i x hx=>let ⟨u,hu,hk⟩:=p.2 i x hx;⟨u,t.mono h hu,hk⟩⟩
theorem RowN.set1 {α:Type}{t:Ty α}{cs:List Value}{xs:List α}{i off:Nat}{v:Value}{e e':α}(p:RowN t K cs xs)(hx:xs[i]? =some e)(hoff:off<t.size)
  (he: ∀u,t.rel K u e→∃u',t.rel K u' e'∧u'.cells.toList=u.cells.toList.set off v):RowN t K (cs.set (i*t.size+off) v) (xs.set i e'):=by
 have hi:=(List.getElem?_eq_some_iff.1 hx).1
 refine⟨by rw [List.length_set,List.length_set];exact p.1,fun k z hz=>?_⟩
 by_cases hk:i=k
 ·subst hk
  rw [List.getElem?_set_self hi] at hz
  cases hz
  obtain⟨u,hu,hc⟩:=p.2 i e hx
  obtain⟨u',hu',hcl⟩:=he u hu
  refine⟨u',hu',fun j d hd=>?_⟩
  rw [hcl] at hd
  have hle:(i+1)*t.size≤xs.length*t.size:=Nat.mul_le_mul_right _ hi
  rw [Nat.add_mul,Nat.one_mul] at hle
  have hp:=p.1
  by_cases hj:off=j
  ·subst hj
   have hlen:off<u.cells.toList.length:=by
    have:=(List.getElem?_eq_some_iff.1 hd).1
    rwa [List.length_set] at this
   rw [List.getElem?_set_self hlen] at hd
   cases hd
   rw [List.getElem?_set_self (by omega)]
  ·rw [List.getElem?_set_ne hj] at hd
   rw [List.getElem?_set_ne (by omega)]
   exact hc j d hd
 ·rw [List.getElem?_set_ne hk] at hz
  obtain⟨u,hu,hc⟩:=p.2 k z hz
  refine⟨u,hu,fun j d hd=>?_⟩
  have hj:=(List.getElem?_eq_some_iff.1 hd).1
  have hsz:u.cells.toList.length=t.size:=by simpa using t.size_eq hu
  have hne:i*t.size+off≠k*t.size+j:=fun q=>by
   rcases Nat.lt_or_gt_of_ne hk with h | h
   ·have:=Nat.mul_le_mul_right t.size h
    rw [Nat.succ_mul] at this
    omega
   ·have:=Nat.mul_le_mul_right t.size h
    rw [Nat.succ_mul] at this
    omega
  rw [List.getElem?_set_ne hne]
  exact hc j d hd
theorem splice_one (cs:List Value)(o:Nat)(v:Value)(h:o<cs.length):splice cs o [v]=cs.set o v:=by
 unfold splice
 rw [List.set_eq_take_append_cons_drop,if_pos h,List.append_assoc]
 rfl
theorem wl_storeN {α:Type}{t:Ty α}{g off:Nat}{i:Int}{cs:List Value}{xs:List α}{v:Value}{e e':α}(hw:Wanted ops N E gd)(hT:TF P T 1 false zero bytes)(hx:ev E x=some (.pointer (some ⟨g,i.toNat*t.size+off,none⟩)))(hy:ev E y=some v)(hone:v.oneCell'=true)
  (hS:SH w0 K0 M w K (obj g cs U::L))(hr:RowN t K cs xs)(hz:getI xs i=some e)(hoff:off<t.size)(he: ∀u,t.rel K u e→∃u',t.rel K u' e'∧u'.cells.toList=u.cells.toList.set off v)
  (h: ∀cs' w',RowN t K cs' (xs.set i.toNat e')→cs'.length=cs.length→SH w0 K0 M w' K (obj g cs' U::L)→WL P ops Q N rest E w'):WL P ops Q N (⟨none,.store T x y,ty,pos,af,gd⟩::rest) E w:=by
 obtain⟨g0,g1,g2⟩:=getI_some hz
 have hi:=(List.getElem?_eq_some_iff.1 g2).1
 have hle:(i.toNat+1)*t.size≤xs.length*t.size:=Nat.mul_le_mul_right _ hi
 rw [Nat.add_mul,Nat.one_mul] at hle
 have hp:=hr.1
 have hc:=cells_one hone
 have hlt:i.toNat*t.size+off<cs.length:=by omega
 refine wl_store (cs':=cs.set (i.toNat*t.size+off) v) (v:=v) hw hT hx hy (by rw [hc];rfl) (by rw [hc];simpa using hone) hS (by rw [Nat.ble_eq];omega) (by rw [hc];exact splice_one cs _ v hlt) fun w' hS'=>?_
 exact h _ w' (hr.set1 g2 hoff he) (by rw [List.length_set]) hS'
theorem SH.thaw {α:Type}{t:Ty α}(hf:t.flat){g n c:Nat}{xs:List α}(h0:Holds K0 w0)(h:SH w0 K0 [] w K (tail (.slice (some ⟨g,0,none⟩) n c) U t.size::L))(hs:SliceAt t K (some ⟨g,0,none⟩) n c xs):
  ∃cs,SH w0 K0 [] w (K.but [g]) (obj g cs U::L)∧RowN t (K.but [g]) cs xs∧cs.length=c*t.size:=by
 obtain⟨g',n',cap,cur,hv,hcur,hsz,_⟩:=(h.items _ (.head _)).2 g rfl
 cases hv
 have hcur':w.heap[g]? =some (.cells cur U (0,0)):=hcur
 have hlt:=h.lt _ (.head _) g (by simp [tail,one,Value.ownBlock])
 have hge:w0.heap.size≤g:=hlt.2.resolve_right (by simp)
 have hoff: ∀it∈L,∀b∈it.gs,b∉[g]:=fun it hi b hb q=>by
  have hnd:=h.nodup
  rw [List.flatMap_cons,List.nodup_append] at hnd
  exact hnd.2.2 g (by simp [tail,one,Value.ownBlock]) b (List.mem_flatMap.2 ⟨it,hi,hb⟩) (List.mem_singleton.1 q).symm
 refine⟨cur.toList,⟨h.os,h.tape,h.output,fun b o v e=>h.holds b o v (but_le b o v e),le_but h.le h0 fun b hb=>by rw [List.mem_singleton.1 hb];exact hge,h.size,h.old,fun b hb hm=>?_,fun it hi=>?_,fun it hi b hb=>?_,h.nodup,h.drawn⟩,⟨?_,fun i x hx=>?_⟩,by simpa using hsz⟩
 ·funext o
  rw [but_at (fun q=>by rw [List.mem_singleton.1 q] at hb;omega),h.oldK b hb hm]
 ·rcases List.mem_cons.1 hi with rfl | hi
  ·refine⟨trivial,fun b hb=>?_⟩
   cases hb
   exact⟨⟨by simpa using hcur,.inl rfl⟩,fun o=>but_in (List.mem_singleton.2 rfl) o⟩
  ·have h1:=h.items it (.tail _ hi)
   exact⟨h1.1,it.loc (fun b hb=>⟨rfl,funext fun o=>(but_at (hoff it hi b hb) o).symm⟩) h1.2⟩
 ·rcases List.mem_cons.1 hi with rfl | hi
  ·have:b=g:=by simpa [obj,one] using hb
   subst this;exact hlt
  ·exact h.lt it (.tail _ hi) b hb
 ·have hcl:cur.toList.length=c*t.size:=by simpa using hsz
  rw [hcl,←hs.1]
  exact Nat.mul_le_mul_right _ hs.2.1
 ·have hlen:=(List.getElem?_eq_some_iff.1 hx).1
  have h1:=hs.1
  have h2:=hs.2.1
  obtain⟨b,o,e1,h5⟩:=hs.2.2.2 (by omega)
  cases e1
  obtain⟨u,hu,hk⟩:=h5 i x hx
  refine⟨u,hf hu,fun j d hd=>?_⟩
  have:=h.holds _ _ _ (hk j d hd)
  rw [Nat.zero_add] at this
  simpa [World.cell?,hcur'] using this
theorem SH.refreeze {α:Type}{t:Ty α}{g n c:Nat}{cs:List Value}{xs:List α}(h:SH w0 K0 M w K (obj g cs U::L))(hr:RowN t K cs xs)(hn:n=xs.length)(hc:n≤c)(hm:c≤maxLen)(hl:cs.length=c*t.size):
  ∃K',KLe K K'∧SliceAt t K' (some ⟨g,0,none⟩) n c xs∧SH w0 K0 M w K' (tail (.slice (some ⟨g,0,none⟩) n c) U t.size::L):=by
 obtain⟨e,_⟩:=h.obj_at
 have hnone:=((h.items _ (List.mem_cons_self ..)).2 g rfl).2
 have hlt:=h.own
 have hle:KLe K (K.put g (fun o=>if o<n*t.size then cs[o]? else none)):=fun b o v e'=>by
  by_cases hb:b=g
  ·rw [hb,hnone] at e';cases e'
  ·rw [K.put_other _ hb];exact e'
 refine⟨_,hle,SliceAt.of_cells hn hc hm (fun i z hz=>?_),?_⟩
 ·obtain⟨u,hu,hk⟩:=hr.2 i z hz
  have hi:=(List.getElem?_eq_some_iff.1 hz).1
  have hus:u.cells.toList.length=t.size:=by simpa using t.size_eq hu
  have hle2:(i+1)*t.size≤xs.length*t.size:=Nat.mul_le_mul_right _ hi
  rw [Nat.add_mul,Nat.one_mul] at hle2
  refine⟨u,t.mono hle hu,fun j d e=>?_⟩
  have hj:=(List.getElem?_eq_some_iff.1 e).1
  rw [K.put_same,if_pos (by rw [hn];omega)];exact hk j d e
 ·refine h.drop.step (w':=w) rfl rfl rfl (Nat.le_refl _) (by omega) (fun b _ _=>rfl) hlt.1 hlt.2 h.apart (fun b hb=>K.put_other _ hb) (fun o v e=>hle g o v e)
   (fun o v e=>?_) rfl ⟨.inr ⟨g,_,_,rfl,hc,hm⟩,g,_,_,_,rfl,e,by simpa using hl,fun i hi=>?_⟩
  ·rw [K.put_same] at e
   split at e
   ·rw [h.obj_cell];exact e
   ·cases e
  ·rw [K.put_same,if_neg (by omega)]
theorem SH.tailBlock {a:Option Addr}{n c sz:Nat}(h:SH w0 K0 M w K (tail (.slice a n c) T sz::L)):(a=none∧n=0∧c=0)∨∃g,a=some ⟨g,0,none⟩∧n≤c∧c≤maxLen:=by
 rcases (h.items _ (.head _)).1 with hs | ⟨g,n',cap,hs,h1,h2⟩
 ·cases hs;exact .inl ⟨rfl,rfl,rfl⟩
 ·cases hs;exact .inr ⟨g,rfl,h1,h2⟩
theorem SH.mkNil (h:SH w0 K0 M w K L)(KM:KMap):SH w0 K0 M w K (mkI [] KM::L):=
 ⟨h.os,h.tape,h.output,h.holds,h.le,h.size,h.old,h.oldK,by
  intro it hi
  rcases List.mem_cons.1 hi with rfl | hi
  ·exact⟨trivial,fun b hb=>by cases hb⟩
  ·exact h.items it hi,by
  intro it hi b hb
  rcases List.mem_cons.1 hi with rfl | hi
  ·cases hb
  ·exact h.lt it hi b hb,by
  rw [List.flatMap_cons];exact h.nodup,h.drawn⟩
theorem xmark_call {α:Type}{t:Ty α}(hf:t.flat){f:Nat}{a:Option Addr}{n c:Nat}{xs ys:List α}{k r:Int}(h0:Holds K0 w0)(hS:SH w0 K0 [] w K (tail (.slice a n c) U t.size::L))(hs:SliceAt t K a n c xs)(hy:ys.length=xs.length)
  (hx: ∀(g:Nat) (cs:List Value) (K1:KMap),SH w K1 (List.flatMap Item.gs [obj g cs U]) w K1 [obj g cs U]→RowN t K1 cs xs→Calls P f #[.slice (some ⟨g,0,none⟩) n c,.int .i64 k] w fun e w'=>∃cs' K2,e= .returned (.int .i64 r)∧SH w K1 (List.flatMap Item.gs [obj g cs U]) w' K2 [obj g cs' U]∧RowN t K2 cs' ys∧cs'.length=cs.length∧rng64 r)
  (hnil:n=0→∀(K1:KMap),SH w K1 (List.flatMap Item.gs [mkI [] K1]) w K1 [mkI [] K1]→Calls P f #[.slice none 0 0,.int .i64 k] w fun e w'=>∃K2,e= .returned (.int .i64 r)∧SH w K1 (List.flatMap Item.gs [mkI [] K1]) w' K2 [mkI [] K1]∧rng64 r):
  Calls P f #[.slice a n c,.int .i64 k] w fun e w'=>∃K',e= .returned (.int .i64 r)∧SH w0 K0 [] w' K' (tail (.slice a n c) U t.size::L)∧SliceAt t K' a n c ys∧KLe (K.but (tail (.slice a n c) U t.size).gs) K'∧rng64 r:=by
 rcases hS.tailBlock with ⟨rfl,rfl,rfl⟩ | ⟨g,rfl,hnc,hcm⟩
 ·have hm:=hS.mkNil K
  refine(hnil rfl K (SH.enter (Lin:=[mkI [] K]) hm)).mono fun e w' ⟨K2,he,h2,hr⟩=>?_
  have hl:xs.length=0:=hs.1.symm
  have hy0:ys=[]:=List.length_eq_zero_iff.1 (by omega)
  subst hy0
  refine⟨K2,he,(SH.call (Lin:=[mkI [] K]) hm h2).drop,⟨rfl,Nat.le_refl _,Nat.zero_le _,fun q=>by omega⟩,but_le.trans h2.le,hr⟩
 ·obtain⟨cs,h1,h2,h3⟩:=hS.thaw hf h0 hs
  refine(hx g cs _ (SH.enter (Lin:=[obj g cs U]) h1) h2).mono fun e w' ⟨cs',K2,he,h4,h5,h6,hr⟩=>?_
  have h7:=SH.call (Lin:=[obj g cs U]) h1 h4
  obtain⟨K3,g1,g2,g3⟩:=SH.refreeze h7 h5 (by rw [hy];exact hs.1) hnc hcm (by rw [h6];exact h3)
  exact⟨K3,he,g3,g2,(h4.le).trans g1,hr⟩
theorem SH.tail_new {v:Value}{sz:Nat}(h:SH w0 K0 [] w K (tail v T sz::L)): ∀b∈(tail v T sz).gs,w0.heap.size≤b:=fun b hb=>(h.lt _ (.head _) b hb).2.resolve_right (by simp)
theorem w64_next {i:Nat}(h:i<maxLen):w64 ((i:Int)+(1:Int))=((i+1:Nat):Int):=by
 have h':i<9223372036854775807:=h
 rw [w64_of ⟨by omega,by omega⟩];omega
theorem mid_get {α:Type}{ms xs:List α}{j:Int}{i:Nat}{x:α}(hj:j=(i:Int))(hl:ms.length=xs.length)(hx:getI xs j=some x):getI (ms.take i++xs.drop i) j=some x:=by
 obtain⟨g0,g1,g2⟩:=getI_some hx
 subst hj
 unfold getI
 rw [Int.toNat_natCast] at *
 rw [if_pos g0,List.getElem?_append_right (by rw [List.length_take];omega),List.length_take,List.getElem?_drop]
 rw [show i+(i-min i ms.length)=i by omega]
 exact g2
theorem mid_set1 {α:Type}{ms xs:List α}{j:Int}{i:Nat}{x z:α}(hj:j=(i:Int))(hl:ms.length=xs.length)(hx:getI xs j=some x)(hz:ms[i]? =some z):(ms.take i++xs.drop i).set j.toNat z=ms.take (i+1)++xs.drop (i+1):=by
 obtain⟨g0,g1,g2⟩:=getI_some hx
 subst hj
 rw [Int.toNat_natCast] at *
 have hi:=(List.getElem?_eq_some_iff.1 g2).1
 rw [List.set_append_right _ _ (by rw [List.length_take];omega),List.length_take,show i-min i ms.length=0 by omega,List.drop_eq_getElem_cons hi,List.set_cons_zero,List.take_add_one,hz,List.append_assoc]
 rfl
theorem mid_end {α:Type}{ms xs:List α}{i:Nat}(hl:ms.length=xs.length)(h:xs.length≤i):ms.take i++xs.drop i=ms:=by
 rw [List.take_of_length_le (by omega),List.drop_of_length_le h,List.append_nil]
end
end Go.Fk
