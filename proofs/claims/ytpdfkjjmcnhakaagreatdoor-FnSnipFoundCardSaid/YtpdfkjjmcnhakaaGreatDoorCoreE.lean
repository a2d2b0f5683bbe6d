/-
  New blocks, stores, append: b4P a call's state: of no program.
-/
import Derived.Test.YtpdfkjjmcnhakaaGreatDoorCoreAD
namespace Go.Fk
open Go
set_option linter.unusedSectionVars false
variable [dr:Dr]
def C7.put (K:C7)(g:Nat)(k:Nat→Option Value):C7:=fun b o=>if b=g then k o else K b o
theorem C7.put_same (K:C7)(g:Nat)(k:Nat→Option Value):K.put g k g=k:=by funext o;simp [C7.put]
theorem C7.put_other (K:C7){g b:Nat}(k:Nat→Option Value)(h:b≠g):K.put g k b=K b:=by funext o;simp [C7.put,h]
section
variable {P:Program}{ops:Array Oper}{Q:Exit→Act→World→Prop}{N:Nat}{E:X6}{w w0:World}{K K0:C7}{M:List Nat}{L:List B8}
variable {x y:Operand}{T T' U:TypeId}{size bytes:Nat}{zero:Value}{agg:Bool}{fr:Nat×Nat}
theorem SH.fresh (h:SH w0 K0 M w K L): ∀it∈L,w.heap.size∉it.gs:=fun it hi e=>by have:=(h.lt it hi _ e).1;omega
theorem SH.newObj (h:SH w0 K0 M w K L)(cs:List Value)(T:TypeId):SH w0 K0 M (w.alloc (.cells cs.toArray T)) K (r5 w.heap.size cs T::L):=by
 have hn: ∀o,K w.heap.size o=none:=h.ge_none (Nat.le_refl _)
 refine h.step rfl rfl rfl (by simp) (by simp) (fun b hb _=>RowKit.Below.heap_alloc w _ b hb) (by simp) (.inl h.size) h.fresh (fun _ _=>rfl) (fun _ _ e=>e) (fun o v e=>?_) rfl ⟨trivial,⟨heap_alloc_new w _,.inl rfl⟩,hn⟩
 rw [hn] at e;cases e
theorem SH.newTail (h:SH w0 K0 M w K L){cs rest:List Value}{n cap sz:Nat}(T:TypeId)(hl:cs.length=n*sz)(hr:(cs++rest).length=cap*sz)(hn:n≤cap)(hc:cap≤maxLen):
  ∃K',H7 K K'∧D7 K' w.heap.size 0 cs∧SH w0 K0 M (w.alloc (.cells (cs++rest).toArray T)) K' (tail (.slice (some ⟨w.heap.size,0,none⟩) n cap) T sz::L):=by
 have hno: ∀o,K w.heap.size o=none:=h.ge_none (Nat.le_refl _)
 refine⟨K.put w.heap.size (fun o=>cs[o]?),fun b o v e=>?_,fun j c e=>?_,?_⟩
 ·by_cases hb:b=w.heap.size
  ·subst hb;rw [hno] at e;cases e
  ·rw [K.put_other _ hb];exact e
 ·rw [K.put_same,Nat.zero_add];exact e
 ·refine h.step rfl rfl rfl (by simp) (by simp) (fun b hb _=>RowKit.Below.heap_alloc w _ b hb) (by simp) (.inl h.size) h.fresh (fun b hb=>K.put_other _ hb) (fun o v e=>?_) (fun o v e=>?_) rfl
   ⟨.inr ⟨_,_,_,rfl,hn,hc⟩,w.heap.size,n,cap,_,rfl,heap_alloc_new w _,by simpa using hr,fun i hi=>?_⟩
  ·rw [hno] at e;cases e
  ·rw [K.put_same] at e
   have hlt:=(g8.1 e).1
   simp only [World.cell?,heap_alloc_new]
   simp only [Option.isSome_none,Bool.false_eq_true,if_false]
   rw [List.getElem?_toArray,List.getElem?_append_left hlt];exact e
  ·rw [K.put_same,List.getElem?_eq_none];omega
theorem b6e (hT:TF P T size agg zero bytes):a1O P E w (.alloc T) (.ok (.value (.pointer (some ⟨w.heap.size,0,none⟩))) (w.alloc (.cells zero.cells.toList.toArray T))):=fun ρ _ _ _ _ _ _=>by
 simp [execOp,Instr.alloc,a1I hT,newVar,newRow]
theorem b8V {v:Value}(hx:ev E x=some v):a1O P E w (.box T x) (.ok (.value (.pointer (some ⟨w.heap.size,0,none⟩))) (w.alloc (.cells v.cells.toList.toArray T))):=fun ρ _ _ _ _ _ ha=>by
 simp [execOp,ha x _ hx,Instr.box,newVar,newRow]
theorem U3 (g o:Nat)(t:TypeId)(fr:Nat×Nat): ∀(vs:List Value) (i:Nat) (cur:Array Value) (w:World),w.heap[g]? =some (.cells cur t fr)→(fr=(0,0)∨cur.size≤fr.1)→o+i+vs.length≤cur.size→(∀v∈vs,v.oneCell'=true)→
  (storeCells ⟨g,o,none⟩ vs i).run P w= .ok () (w.setRow g (cur.toList.take (o+i)++vs++cur.toList.drop (o+i+vs.length)).toArray)
 | [],i,cur,w,hg,_,_,_=>by
  simp only [storeCells,List.append_nil,List.length_nil,Nat.add_zero,List.take_append_drop,Array.toArray_toList]
  rw [setRow_self w g cur t fr hg]
  rfl
 | v::rest,i,cur,w,hg,hfr,hl,h1=>by
  have hi:o+i<cur.size:=by simp at hl;omega
  have hcell:w.cell? ⟨g,o+i,none⟩=some cur[o+i]:=by simp [World.cell?,hg,hi]
  have hfro:w.frozen? ⟨g,o+i,none⟩=false:=by
   rcases hfr with rfl | hfr
   ·simp [World.frozen?,hg]
   ·obtain⟨f1,f2⟩:=fr
    simp only at hfr
    simp [World.frozen?,hg];omega
  have hst:(store ((⟨g,o,none⟩:Addr).add i) v).run P w= .ok () (w.setRow g (cur.setIfInBounds (o+i) v)):=by
   rw [a2N,run_store P w _ v _ (h1 v (by simp)),hcell]
   simp [hfro,setCell_eq_setRow w g (o+i) cur t fr v hg]
  have ih:=U3 g o t fr rest (i+1) (cur.setIfInBounds (o+i) v) (w.setRow g (cur.setIfInBounds (o+i) v)) (setRow_heap w g cur _ t _ hg) (by simpa using hfr) (by simp at hl ⊢;omega) (fun x hx=>h1 x (by simp [hx]))
  simp only [storeCells,Sem.run_bind,hst,Result.andThen_ok,ih,setRow_setRow]
  congr 3
  have e:=list_seg_step cur.toList (o+i) v rest (by simp at hl ⊢;omega)
  simpa [Array.toList_setIfInBounds,Nat.add_assoc] using e
def H9 (cs:List Value)(o:Nat)(vs:List Value):List Value:=cs.take o++vs++cs.drop (o+vs.length)
theorem SH.set {g:Nat}{cs ds:List Value}(h:SH w0 K0 M w K (r5 g cs U fr::L))(hl:ds.length=cs.length):SH w0 K0 M (w.setRow g ds.toArray) K (r5 g ds U fr::L):=by
 obtain⟨e,hf⟩:=h.obj_at
 have hlt:=h.own
 have hnone:=((h.items _ (List.mem_cons_self ..)).2 g rfl).2
 refine h.drop.step rfl rfl rfl (by simp [World.setRow]) (by simp [World.setRow]) (fun b _ hb=>setRow_other w g b _ hb) (by simp [World.setRow];exact hlt.1) hlt.2
  h.apart (fun _ _=>rfl) (fun _ _ e=>e) (fun o v e=>?_) rfl ⟨trivial,⟨setRow_heap w g _ _ _ _ e,?_⟩,hnone⟩
 ·rw [hnone] at e;cases e
 ·rcases hf with hf | hf
  ·exact .inl hf
  ·exact .inr (by omega)
theorem b1S {g o:Nat}{cs:List Value}{v:Value}(hT:TF P T size agg zero bytes)(hx:ev E x=some (.pointer (some ⟨g,o,none⟩)))(hy:ev E y=some v)(hsz:v.cells.size=size)(hones: ∀c∈v.cells.toList,c.oneCell'=true)
  (hS:SH w0 K0 M w K (r5 g cs U fr::L))(hfit:Nat.ble (o+size) cs.length=true):
  a1O P E w (.store T x y) (.ok .skip (w.setRow g (H9 cs o v.cells.toList).toArray))∧SH w0 K0 M (w.setRow g (H9 cs o v.cells.toList).toArray) K (r5 g (H9 cs o v.cells.toList) U fr::L):=by
 have hfit':o+size≤cs.length:=by simpa using hfit
 obtain⟨e,hf⟩:=hS.obj_at
 refine⟨fun ρ _ _ _ _ _ ha=>?_,hS.set ?_⟩
 ·have hst:=U3 (P:=P) g o U fr v.cells.toList 0 cs.toArray w e (by simpa using hf) (by simp;omega) hones
  simp only [Nat.add_zero] at hst
  simp [execOp,ha x _ hx,ha y _ hy,Instr.storeAt,Instr.sureAddr,storeVar,H8 hT,hsz,hst,H9]
 ·simp only [H9,j8,List.length_take,List.length_drop,Array.length_toList,hsz];omega
def J5 {α:Type}(bytes:Nat)(xs ys:List α):Option (List α):=if (xs.length+ys.length)*bytes≤140737488355328 then some (xs++ys) else none
theorem b0s {α:Type}(t:Ty α)(K:C7)(b:Nat): ∀(ys:List α) (o:Nat),(∀(i:Nat) y,ys[i]? =some y→∃u,t.rel K u y∧D7 K b (o+i*t.size) u.cells.toList)→
  ∃cs:List Value,cs.length=ys.length*t.size∧D7 K b o cs∧(∀c∈cs,c.oneCell'=true)∧∀(i:Nat) y,ys[i]? =some y→∃u,t.rel K u y∧∀j c,u.cells.toList[j]? =some c→cs[i*t.size+j]? =some c
 | [],_,_=>⟨[],by simp,fun _ _ e=>by simp at e,by simp,fun _ _ e=>by simp at e⟩
 | y::r,o,h=>by
  obtain⟨u,hu,hk⟩:=h 0 y rfl
  have hus:=t.size_eq hu
  have hul:u.cells.toList.length=t.size:=by simpa using hus
  obtain⟨cs,h1,h2,h3,h4⟩:=b0s t K b r (o+t.size) (fun i z hz=>by
   obtain⟨u',hu',hk'⟩:=h (i+1) z (by simpa using hz)
   exact⟨u',hu',by rw [show o+t.size+i*t.size=o+(i+1)*t.size from by rw [Nat.add_mul,Nat.one_mul];omega];exact hk'⟩)
  refine⟨u.cells.toList++cs,by rw [j8,hul,h1,l9,Nat.add_mul,Nat.one_mul,Nat.add_comm],fun j c e=>?_,fun c hc=>?_,fun i z hz=>?_⟩
  ·by_cases hj:j<t.size
   ·rw [List.getElem?_append_left (by omega)] at e
    have:=hk j c e
    simpa using this
   ·rw [List.getElem?_append_right (by omega),hul] at e
    have:=h2 _ c e
    rwa [show o+t.size+(j-t.size)=o+j from by omega] at this
  ·rcases List.mem_append.1 hc with hc | hc
   ·exact t.ones hu c hc
   ·exact h3 c hc
  ·cases i with
   | zero=>
    simp at hz
    subst hz
    refine⟨u,hu,fun j c e=>?_⟩
    have hj:=(g8.1 e).1
    rw [Nat.zero_mul,Nat.zero_add,List.getElem?_append_left hj];exact e
   | succ i=>
    simp at hz
    obtain⟨u',hu',hk'⟩:=h4 i z hz
    refine⟨u',hu',fun j c e=>?_⟩
    rw [List.getElem?_append_right (by rw [hul,Nat.add_mul,Nat.one_mul];omega),hul,show (i+1)*t.size+j-t.size=i*t.size+j from by rw [Nat.add_mul,Nat.one_mul];omega]
    exact hk' j c e
theorem b7.of_cells {α:Type}{t:Ty α}{g n c:Nat}{zs:List α}(hn:n=zs.length)(hc:n≤c)(hm:c≤maxLen)
  (h: ∀(i:Nat) z,zs[i]? =some z→∃u,t.rel K u z∧D7 K g (i*t.size) u.cells.toList):b7 t K (some ⟨g,0,none⟩) n c zs:=
 ⟨hn,hc,hm,fun _=>⟨g,0,rfl,fun i z hz=>by rw [Nat.zero_add];exact h i z hz⟩⟩
theorem a3U {v:Value}{n cap n2 c2:Nat}{a a2:Option Addr}(hT:P.underlying T=some (.slice U))(hU:TF P U size agg zero bytes)(hv:v= .slice a n cap)(hn:n≤cap)(h0:n2=0)(ty:TypeId):
  (Builtin.append_ #[T,T] ty #[v,.slice a2 n2 c2]).run P w= .ok v w:=by
 subst hv;subst h0
 cases a2 with
 | none=>cases a<;>simp [Builtin.append_,run_underlying hT,H8 hU,Builtin.lenOf,Builtin.firstCells,hn,storeCells]
 | some a2=>cases a<;>simp [Builtin.append_,run_underlying hT,H8 hU,Builtin.lenOf,Builtin.firstCells,hn,storeCells,loadCells,loadCellsFrom]
theorem a79 {α:Type}{t:Ty α}{n n2 cap:Nat}{xs ys:List α}{olds news:List Value}(hzs:zero.cells.size=t.size)
  (hS:SH w0 K0 M w K L)(hn:n=xs.length)(hn2:n2=ys.length)(hol:olds.length=n*t.size)(hnl:news.length=n2*t.size)(hcap:n+n2≤cap)(hcm:cap≤maxLen)
  (holr: ∀(k:Nat) z,xs[k]? =some z→∃u,t.rel K u z∧∀j d,u.cells.toList[j]? =some d→olds[k*t.size+j]? =some d)
  (hnr: ∀(k:Nat) z,ys[k]? =some z→∃u,t.rel K u z∧∀j d,u.cells.toList[j]? =some d→news[k*t.size+j]? =some d):
  ∃K',H7 K K'∧b7 t K' (some ⟨w.heap.size,0,none⟩) (n+n2) cap (xs++ys)∧
   SH w0 K0 M (w.alloc (.cells (olds.toArray++news.toArray++Builtin.zeroCells zero.cells (cap-(n+n2))) U)) K' (tail (.slice (some ⟨w.heap.size,0,none⟩) (n+n2) cap) U t.size::L):=by
 have hlen:(olds++news).length=(n+n2)*t.size:=by rw [j8,hol,hnl,Nat.add_mul]
 have hzl:(Builtin.zeroCells zero.cells (cap-(n+n2))).toList.length=(cap-(n+n2))*t.size:=by
  rw [Array.length_toList,size_zeroCells,hzs]
 obtain⟨K',hle,hat,hS'⟩:=hS.newTail (cs:=olds++news) (rest:=(Builtin.zeroCells zero.cells (cap-(n+n2))).toList) (n:=n+n2) (cap:=cap) (sz:=t.size) U hlen
  (by rw [j8,hlen,hzl,←Nat.add_mul];congr 1;omega) hcap hcm
 refine⟨K',hle,b7.of_cells (by simp;omega) hcap hcm (fun k z hz=>?_),?_⟩
 ·by_cases hk:k<n
  ·rw [List.getElem?_append_left (by omega)] at hz
   obtain⟨u,hu,hk2⟩:=holr k z hz
   refine⟨u,t.mono hle hu,fun j d e=>?_⟩
   have:=hk2 j d e
   have hlt:=(g8.1 this).1
   have:=hat (k*t.size+j) d (by rw [List.getElem?_append_left hlt];exact this)
   rwa [Nat.zero_add] at this
  ·rw [List.getElem?_append_right (by omega)] at hz
   obtain⟨u,hu,hk2⟩:=hnr _ z hz
   refine⟨u,t.mono hle hu,fun j d e=>?_⟩
   have h5:=hk2 j d e
   have hge:n*t.size≤k*t.size:=Nat.mul_le_mul_right _ (by omega)
   have:=hat (k*t.size+j) d (by
    rw [List.getElem?_append_right (by omega),hol,←h5]
    congr 1
    rw [←hn,Nat.sub_mul];omega)
   rwa [Nat.zero_add] at this
 ·have e5:(olds.toArray++news.toArray++Builtin.zeroCells zero.cells (cap-(n+n2)))=(olds++news++(Builtin.zeroCells zero.cells (cap-(n+n2))).toList).toArray:=by
   apply Array.ext';simp
  rw [e5];exact hS'
theorem b09 {α:Type}{t:Ty α}{g n n2 c:Nat}{xs ys:List α}{news:List Value}{cur:Array Value}(hS:SH w0 K0 M w K (tail (.slice (some ⟨g,0,none⟩) n c) U t.size::L))
  (hcur:w.heap[g]? =some (.cells cur U (0,0)))(hcs:cur.size=c*t.size)(hkn: ∀i,n*t.size≤i→K g i=none)(hs:b7 t K (some ⟨g,0,none⟩) n c xs)(hn2:n2=ys.length)(h0:0<n2)
  (hroom:n+n2≤c)(hnl:news.length=n2*t.size)
  (hnr: ∀(k:Nat) z,ys[k]? =some z→∃u,t.rel K u z∧∀j d,u.cells.toList[j]? =some d→news[k*t.size+j]? =some d):
  ∃K',H7 K K'∧b7 t K' (some ⟨g,0,none⟩) (n+n2) c (xs++ys)∧
   SH w0 K0 M (w.setRow g (cur.toList.take (n*t.size)++news++cur.toList.drop (n*t.size+news.length)).toArray) K' (tail (.slice (some ⟨g,0,none⟩) (n+n2) c) U t.size::L):=by
 obtain⟨e1,e2,e3,e4⟩:=hs
 obtain⟨b,o,hbo,hel⟩:=e4 (by omega)
 injection hbo with hbo
 injection hbo with hb1 ho1 _
 subst hb1 ho1
 have hle:H7 K (K.put g (fun i=>if i<n*t.size then K g i else news[i-n*t.size]?)):=fun b o v e=>by
  by_cases hb:b=g
  ·subst hb
   rw [K.put_same]
   have:o<n*t.size:=by
    rcases Nat.lt_or_ge o (n*t.size) with h | h
    ·exact h
    ·rw [hkn o h] at e;cases e
   simp [this,e]
  ·rw [K.put_other _ hb];exact e
 have hlt:=hS.own
 have hrow:=setRow_heap w g cur (cur.toList.take (n*t.size)++news++cur.toList.drop (n*t.size+news.length)).toArray U (0,0) hcur
 have hsz:n*t.size+news.length≤cur.size:=by rw [hcs,hnl,←Nat.add_mul];exact Nat.mul_le_mul_right _ hroom
 refine⟨_,hle,b7.of_cells (by simp;omega) hroom e3 (fun k z hz=>?_),?_⟩
 ·by_cases hk:k<n
  ·rw [List.getElem?_append_left (by omega)] at hz
   obtain⟨u,hu,hk2⟩:=hel k z hz
   rw [Nat.zero_add] at hk2
   exact⟨u,t.mono hle hu,hk2.mono hle⟩
  ·rw [List.getElem?_append_right (by omega)] at hz
   obtain⟨u,hu,hk2⟩:=hnr _ z hz
   refine⟨u,t.mono hle hu,fun j d e=>?_⟩
   have h5:=hk2 j d e
   have hge:n*t.size≤k*t.size:=Nat.mul_le_mul_right _ (by omega)
   rw [K.put_same]
   have hnl2: ¬k*t.size+j<n*t.size:=by omega
   simp only [hnl2,if_false]
   rw [←h5];congr 1
   rw [←e1,Nat.sub_mul];omega
 ·refine hS.drop.step rfl rfl rfl (by simp [World.setRow]) (by simp [World.setRow]) (fun b _ hb=>setRow_other w g b _ hb) (by simp [World.setRow];exact hlt.1) hlt.2
   hS.apart (fun b hb=>K.put_other _ hb) (fun o v e=>hle g o v e) (fun o v e=>?_) rfl ⟨.inr ⟨g,_,_,rfl,hroom,e3⟩,g,n+n2,c,_,rfl,hrow,?_,fun i hi=>?_⟩
  ·rw [K.put_same] at e
   simp only [World.cell?,hrow,Option.isSome_none,Bool.false_eq_true,if_false,List.getElem?_toArray]
   by_cases ho:o<n*t.size
   ·simp only [ho,if_true] at e
    have:=hS.holds g o v e
    simp only [World.cell?,hcur,Option.isSome_none,Bool.false_eq_true,if_false] at this
    rw [List.append_assoc,List.getElem?_append_left (by simp;omega),List.getElem?_take,if_pos ho,Array.getElem?_toList]
    exact this
   ·simp only [ho,if_false] at e
    have hj:=(g8.1 e).1
    rw [List.append_assoc,List.getElem?_append_right (by simp;omega),List.getElem?_append_left (by simp;omega)]
    rw [←e];congr 1
    simp;omega
  ·simp only [List.size_toArray,j8,List.length_take,List.length_drop,Array.length_toList];omega
  ·rw [K.put_same]
   have hnl2: ¬i<n*t.size:=by have:=Nat.mul_le_mul_right t.size (show n≤n+n2 by omega);omega
   simp only [hnl2,if_false]
   rw [List.getElem?_eq_none]
   rw [hnl];rw [Nat.add_mul] at hi;omega
theorem b4U {α:Type}{t:Ty α}{a a2:Option Addr}{n c n2 c2:Nat}{xs ys zs:List α}(hT:P.underlying T=some (.slice U))(hU:TF P U t.size agg zero bytes)(hsz:Nat.blt 0 t.size=true)(hzs:zero.cells.size=t.size)
  (hb:Nat.blt 0 bytes=true)(hx:ev E x=some (.slice a n c))(hy:ev E y=some (.slice a2 n2 c2))(hs:b7 t K a n c xs)(hs2:b7 t K a2 n2 c2 ys)(hz:J5 bytes xs ys=some zs)
  (hS:SH w0 K0 M w K (tail (.slice a n c) U t.size::L)):
  ∃a' n' c' w' K',a1O P E w (.call {callee:=.builtin .append,args:=#[x,y],argTypes:=#[T,T]}) (.ok (.value (.slice a' n' c')) w')∧H7 K K'∧b7 t K' a' n' c' zs∧
   SH w0 K0 M w' K' (tail (.slice a' n' c') U t.size::L):=by
 have hsz':0<t.size:=by simpa [Nat.blt_eq] using hsz
 have hb':0<bytes:=by simpa [Nat.blt_eq] using hb
 have hgo: ∀v' w',(∀ty,(Builtin.append_ #[T,T] ty #[.slice a n c,.slice a2 n2 c2]).run P w= .ok v' w')→
   a1O P E w (.call {callee:=.builtin .append,args:=#[x,y],argTypes:=#[T,T]}) (.ok (.value v') w'):=fun v' w' h ρ _ ty _ _ _ ha=>by
  simp [execOp,resolve,invoke,builtin,ha x _ hx,ha y _ hy,h]
 have hs0:=hs
 obtain⟨e1,e2,e3,e4⟩:=hs
 obtain⟨f1,f2,f3,f4⟩:=hs2
 unfold J5 at hz
 split at hz
 case isFalse=>cases hz
 rename_i hbound
 cases hz
 have hsum:n+n2≤140737488355328:=by
  have:=Nat.le_mul_of_pos_right (xs.length+ys.length) hb'
  omega
 by_cases hm:n2=0
 ·have hy0:ys=[]:=List.eq_nil_of_length_eq_zero (by omega)
  subst hy0
  exact⟨a,n,c,w,K,hgo _ _ (fun ty=>a3U hT hU rfl e2 hm ty),.refl _,by rw [List.append_nil];exact hs0,hS⟩
 obtain⟨b2,o2,rfl,hel2⟩:=f4 (by omega)
 obtain⟨news,hnl,hnk,hn1,hnr⟩:=b0s t K b2 ys o2 hel2
 have hnc: ∀j u,news[j]? =some u→w.cell? ((⟨b2,o2,none⟩:Addr).add j)=some u:=fun j u e=>by rw [a2N];exact hS.holds _ _ _ (hnk j u e)
 obtain⟨i,hi,hiz,his,hib⟩:=hU.info_
 have hnl':news.length=n2*i.size:=by rw [hnl,his,f1]
 have hnl2:news.length=n2*t.size:=by rw [hnl,f1]
 have hbd:(n+n2)*i.bytes≤140737488355328:=by rw [hib,e1,f1];exact hbound
 have hmax: ∀old,grownCap w (n+n2) old U≤maxLen:=fun old=>grownCap_le_maxLen w (n+n2) old U (by simp [maxLen];omega)
 rcases (hS.items _ (List.mem_cons_self ..)).1 with hnil | ⟨g,n',cap,hv,hnc2,hcm⟩
 ·injection hnil with ha hn hc
  subst ha hn hc
  have hx0:xs=[]:=List.eq_nil_of_length_eq_zero (by omega)
  subst hx0
  obtain⟨K',h1,h2,h3⟩:=a79 (U:=U) (t:=t) (n:=0) (xs:=[]) (ys:=ys) (olds:=[]) (cap:=grownCap w (0+n2) 0 U) hzs hS.drop.drew rfl f1 (by simp) hnl2 (grownCap_ge w (0+n2) 0 U) (hmax 0) (fun k z hz=>by simp at hz) hnr
  refine⟨_,_,_,_,K',hgo _ _ (fun ty=>?_),h1,h2,h3⟩
  have hr:=run_append_nil (P:=P) w T ty U i zero hT hi hiz ⟨b2,o2,none⟩ n2 c2 news hnl' hnc (by omega) (by omega) (by simp at hbd;omega)
  simp only [Nat.zero_add] at hr ⊢
  simpa using hr
 ·injection hv with ha hn hc
  subst ha hn hc
  obtain⟨g',n'',cap',cur,hv',hcur,hcs,hkn⟩:=(hS.items _ (List.mem_cons_self ..)).2 g rfl
  injection hv' with ha' hn' hc'
  injection ha' with ha'
  injection ha' with hg' _ _
  subst hg' hn' hc'
  by_cases hroom:n+n2≤c
  ·obtain⟨K',h1,h2,h3⟩:=b09 hS hcur hcs hkn hs0 f1 (by omega) hroom hnl2 hnr
   refine⟨_,_,_,_,K',hgo _ _ (fun ty=>?_),h1,h2,h3⟩
   have hfit:n*i.size+news.length≤cur.size:=by rw [hnl2,his,hcs,←Nat.add_mul];exact Nat.mul_le_mul_right _ hroom
   have hr:=run_append_room (P:=P) w T ty U i hT hi g n c cur hcur ⟨b2,o2,none⟩ n2 c2 news hnl' hnc hn1 hroom hfit
   rw [his] at hr
   exact hr
  ·have hel: ∃olds:List Value,olds.length=xs.length*t.size∧D7 K g 0 olds∧∀(k:Nat) y,xs[k]? =some y→∃u,t.rel K u y∧∀j d,u.cells.toList[j]? =some d→olds[k*t.size+j]? =some d:=by
    by_cases hc0:0<c
    ·obtain⟨b,o,hbo,hel⟩:=e4 hc0
     injection hbo with hbo
     injection hbo with hb1 ho1 _
     subst hb1 ho1
     obtain⟨olds,h1,h2,_,h4⟩:=b0s t K g xs 0 hel
     exact⟨olds,h1,h2,h4⟩
    ·have hx0:xs=[]:=List.eq_nil_of_length_eq_zero (by omega)
     subst hx0
     exact⟨[],by simp,fun _ _ e=>by simp at e,fun k y e=>by simp at e⟩
   obtain⟨olds,hol,hok,hor⟩:=hel
   obtain⟨K',h1,h2,h3⟩:=a79 (U:=U) (t:=t) (n:=n) (xs:=xs) (ys:=ys) (olds:=olds) (cap:=grownCap w (n+n2) c U) hzs hS.drop.drew e1 f1 (by rw [hol,e1]) hnl2 (grownCap_ge w (n+n2) c U) (hmax c) hor hnr
   refine⟨_,_,_,_,K',hgo _ _ (fun ty=>?_),h1,h2,h3⟩
   exact run_append_grow (P:=P) w T ty U i zero hT hi hiz ⟨g,0,none⟩ n c olds (by rw [hol,his,e1]) (fun j v e=>by rw [a2N];exact hS.holds _ _ _ (hok j v e)) ⟨b2,o2,none⟩ n2 c2 news hnl' hnc
    (by omega) (by omega) (growslice_fits (by omega) hbd)
end
end Go.Fk
