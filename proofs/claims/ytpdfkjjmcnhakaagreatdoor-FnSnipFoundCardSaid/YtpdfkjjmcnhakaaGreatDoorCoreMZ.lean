import Derived.Test.YtpdfkjjmcnhakaaGreatDoorCoreJL
import Derived.Test.YtpdfkjjmcnhakaaGreatDoorCoreFI
import Derived.MapKept
import Derived.Shelf.Strings.OnBuilder
import Derived.Test.YtpdfkjjmcnhakaaGreatDoorCoreAD
import Derived.OpenVars
import Derived.WideKeyElems2
import Derived.LaidMore
import Derived.LaidHandle
import Derived.LaidLaws
import Derived.Stop.Joined
/-
  Rows of the call's own whose content lies in the item, not in K: they are appended to, written by index, sorted. Of no program.
-/
namespace Go.Fk
open Go
set_option linter.unusedSectionVars false
variable [dr:Dr]
def N0 (v:Value)(cs:List Value)(T:TypeId)(sz:Nat):B8:=
 one v.ownBlock ((v= .slice none 0 0∧cs=[])∨∃g n cap,v= .slice (some ⟨g,0,none⟩) n cap∧n≤cap∧cap≤maxLen∧cs.length=n*sz)
 fun o k=>(∃g n cap cur,v= .slice (some ⟨g,0,none⟩) n cap∧o=some (.cells cur T (0,0))∧cur.size=cap*sz∧cur.toList.take (n*sz)=cs)∧∀i,k i=none
section
variable {P:Program}{ops:Array Oper}{Q:Exit→Act→World→Prop}{N:Nat}{E:X6}{w w0 w':World}{K K0:C7}{M:List Nat}{L:List B8}{C:World→Prop}
variable {x y z:Operand}{T T' U:TypeId}{size bytes:Nat}{zero:Value}{agg:Bool}{rest:List Oper}{d:Tmp}{ty:TypeId}{pos:String}{af:Array Edge}{gd:Option (Nat×Bool)}
theorem SH.rowNil (h:SH w0 K0 M w K L)(T:TypeId)(sz:Nat):SH w0 K0 M w K (N0 (.slice none 0 0) [] T sz::L):=
 ⟨h.os,h.tape,h.output,h.holds,h.le,h.size,h.old,h.oldK,by
  intro it hi
  rcases List.mem_cons.1 hi with rfl | hi
  ·exact⟨.inl ⟨rfl,rfl⟩,fun b hb=>by simp [Value.ownBlock] at hb⟩
  ·exact h.items it hi,by
  intro it hi b hb
  rcases List.mem_cons.1 hi with rfl | hi
  ·simp [N0,one,Value.ownBlock] at hb
  ·exact h.lt it hi b hb,by
  rw [List.flatMap_cons];exact h.nodup,h.drawn⟩
theorem SH.rowI_cases {a:Option Addr}{n c sz:Nat}{cs:List Value}(h:SH w0 K0 M w K L)(hm:N0 (.slice a n c) cs U sz∈L):
  (a=none∧n=0∧c=0∧cs=[])∨∃g cur,a=some ⟨g,0,none⟩∧n≤c∧c≤maxLen∧cs.length=n*sz∧w.heap[g]? =some (.cells cur U (0,0))∧cur.size=c*sz∧cur.toList.take (n*sz)=cs∧∀i,K g i=none:=by
 have hi:=h.items _ hm
 rcases hi.1 with ⟨h1,h2⟩ | ⟨g,n',cap,hv,h1,h2,h3⟩
 ·injection h1 with e1 e2 e3
  exact .inl ⟨e1,e2,e3,h2⟩
 ·injection hv with e1 e2 e3
  subst e1 e2 e3
  obtain⟨⟨g2,n2,c2,cur,hv2,h4,h5,h6⟩,h7⟩:=hi.2 g rfl
  injection hv2 with e1 e2 e3
  injection e1 with e1
  injection e1 with e1 _ _
  subst e1 e2 e3
  exact .inr ⟨g,cur,rfl,h1,h2,h3,h4,h5,h6,h7⟩
theorem SH.rowI_at {α:Type}{a:Option Addr}{n c sz:Nat}{cs:List Value}{xs:List α}{i:Int}{e:α}(h:SH w0 K0 M w K L)(hm:N0 (.slice a n c) cs U sz∈L)(hn:n=xs.length)(hz:p8 xs i=some e): ∃g,a=some ⟨g,0,none⟩:=by
 obtain⟨_,g1,_⟩:=a0j hz
 rcases h.rowI_cases hm with ⟨_,h2,_⟩ | ⟨g,cur,h1,_⟩
 ·omega
 ·exact⟨g,h1⟩
theorem SH.row_cell {g n c sz:Nat}{cs:List Value}(h:SH w0 K0 M w K L)(hm:N0 (.slice (some ⟨g,0,none⟩) n c) cs U sz∈L){j:Nat}{v:Value}(hj:cs[j]? =some v):w.cell? ⟨g,j,none⟩=some v:=by
 rcases h.rowI_cases hm with ⟨h1,_⟩ | ⟨g',cur,h1,h2,h3,h4,h5,h6,h7,h8⟩
 ·cases h1
 ·injection h1 with h1
  injection h1 with h1 _ _
  subst h1
  subst h7
  have hl:=(g8.1 hj).1
  rw [List.getElem?_take] at hj
  split at hj
  ·simpa [World.cell?,h5] using hj
  ·cases hj
theorem b1R {α:Type}{a:Option Addr}{n c sz:Nat}{cs:List Value}{xs:List α}(h:SH w0 K0 M w K L)(hm:N0 (.slice a n c) cs U sz∈L)(hn:n=xs.length):xs.length≤maxLen:=by
 rcases h.rowI_cases hm with ⟨_,h2,_⟩ | ⟨g,cur,_,h1,h2,_⟩<;>omega
theorem b5T {α:Type}{xs:List α}{i:Int}{e e':α}(hz:p8 xs i=some e'):p8 (xs.set i.toNat e) i=some e:=by
 obtain⟨g0,g1,g2⟩:=a0j hz
 unfold p8
 rw [if_pos g0,List.getElem?_set]
 simp [(g8.1 g2).1]
theorem SH.newRowI (h:SH w0 K0 M w K L){cs rest:List Value}{n cap sz:Nat}(T:TypeId)(hl:cs.length=n*sz)(hr:(cs++rest).length=cap*sz)(hn:n≤cap)(hc:cap≤maxLen):
  SH w0 K0 M (w.alloc (.cells (cs++rest).toArray T)) K (N0 (.slice (some ⟨w.heap.size,0,none⟩) n cap) cs T sz::L):=by
 have hno: ∀o,K w.heap.size o=none:=h.ge_none (Nat.le_refl _)
 refine h.step rfl rfl rfl (by simp) (by simp) (fun b hb _=>RowKit.Below.heap_alloc w _ b hb) (by simp) (.inl h.size) h.fresh (fun _ _=>rfl) (fun _ _ e=>e) (fun o v e=>?_) rfl
  ⟨.inr ⟨_,_,_,rfl,hn,hc,hl⟩,⟨w.heap.size,n,cap,_,rfl,heap_alloc_new w _,by simpa using hr,?_⟩,hno⟩
 ·rw [hno] at e;cases e
 ·show (cs++rest).take (n*sz)=cs
  rw [List.take_append_of_le_length (by omega),List.take_of_length_le (by omega)]
theorem SH.setRowI {g n c n' sz:Nat}{cs cs' row:List Value}(h:SH w0 K0 M w K (N0 (.slice (some ⟨g,0,none⟩) n c) cs U sz::L))(hrl:row.length=c*sz)(hn:n'≤c)(hl:cs'.length=n'*sz)(ht:row.take (n'*sz)=cs'):
  SH w0 K0 M (w.setRow g row.toArray) K (N0 (.slice (some ⟨g,0,none⟩) n' c) cs' U sz::L):=by
 rcases h.rowI_cases (List.mem_cons_self ..) with ⟨h1,_⟩ | ⟨g',cur,h1,h2,h3,h4,h5,h6,h7,h8⟩
 ·cases h1
 injection h1 with h1
 injection h1 with h1 _ _
 subst h1
 have hlt:=h.own
 refine h.drop.step rfl rfl rfl (by simp [World.setRow]) (by simp [World.setRow]) (fun b _ hb=>setRow_other w g b _ hb) (by simp [World.setRow];exact hlt.1) hlt.2
  h.apart (fun _ _=>rfl) (fun _ _ e=>e) (fun o v e=>?_) rfl ⟨.inr ⟨g,n',c,rfl,hn,h3,hl⟩,⟨g,n',c,_,rfl,setRow_heap w g _ _ _ _ h5,by simpa using hrl,by simpa using ht⟩,h8⟩
 rw [h8] at e;cases e
theorem A9.append {α:Type}{t:Ty α}{cs news:List Value}{xs ys:List α}(h:A9 true t K cs xs)(hnl:news.length=ys.length*t.size)(hn1: ∀c∈news,c.oneCell'=true)
  (hnr: ∀(k:Nat) z,ys[k]? =some z→∃u,t.rel K u z∧∀j d,u.cells.toList[j]? =some d→news[k*t.size+j]? =some d):A9 true t K (cs++news) (xs++ys):=by
 obtain⟨⟨h1,h1x⟩,h2,h3⟩:=h
 have hcl:=h1x rfl
 have hlen:(cs++news).length=(xs++ys).length*t.size:=by rw [j8,j8,hcl,hnl,Nat.add_mul]
 refine⟨⟨by rw [hlen];exact Nat.le_refl _,fun _=>hlen⟩,fun c hc=>?_,fun i z hz=>?_⟩
 ·rcases List.mem_append.1 hc with hc | hc
  ·exact h2 c hc
  ·exact hn1 c hc
 ·by_cases hi:i<xs.length
  ·rw [List.getElem?_append_left hi] at hz
   obtain⟨u,hu,hk⟩:=h3 i z hz
   refine⟨u,hu,fun j d e=>?_⟩
   have:=hk j d e
   rw [List.getElem?_append_left (g8.1 this).1];exact this
  ·rw [List.getElem?_append_right (by omega)] at hz
   obtain⟨u,hu,hk⟩:=hnr _ z hz
   refine⟨u,hu,fun j d e=>?_⟩
   have h5:=hk j d e
   have hge:xs.length*t.size≤i*t.size:=Nat.mul_le_mul_right _ (by omega)
   rw [List.getElem?_append_right (by omega),hcl,←h5]
   congr 1
   rw [Nat.sub_mul];omega
theorem A9.nil {α:Type}(t:Ty α)(K:C7):A9 true t K [] ([]:List α):=⟨⟨by simp,fun _=>by simp⟩,by simp,fun i x h=>by simp at h⟩
theorem a8R {a:Option Addr}{n c n2 c2 b2 o2 sz:Nat}{cs news:List Value}(hT:P.underlying T=some (.slice U))(hU:TF P U sz agg zero bytes)(hzs:zero.cells.size=sz)
  (hx:ev E x=some (.slice a n c))(hy:ev E y=some (.slice (some ⟨b2,o2,none⟩) n2 c2))(h0:0<n2)(hnl:news.length=n2*sz)(hnk:D7 K b2 o2 news)(hn1: ∀c∈news,c.oneCell'=true)(hcl:cs.length=n*sz)
  (hsum:n+n2≤140737488355328)(hbd:(n+n2)*bytes≤140737488355328)(hS:SH w0 K0 M w K (N0 (.slice a n c) cs U sz::L)):
  ∃g c' w',a1O P E w (.call {callee:=.builtin .append,args:=#[x,y],argTypes:=#[T,T]}) (.ok (.value (.slice (some ⟨g,0,none⟩) (n+n2) c')) w')∧
   SH w0 K0 M w' K (N0 (.slice (some ⟨g,0,none⟩) (n+n2) c') (cs++news) U sz::L):=by
 have hgo: ∀v' w',(∀ty,(Builtin.append_ #[T,T] ty #[.slice a n c,.slice (some ⟨b2,o2,none⟩) n2 c2]).run P w= .ok v' w')→
   a1O P E w (.call {callee:=.builtin .append,args:=#[x,y],argTypes:=#[T,T]}) (.ok (.value v') w'):=fun v' w' h ρ _ ty _ _ _ ha=>by
  simp [execOp,resolve,invoke,builtin,ha x _ hx,ha y _ hy,h]
 have hnc: ∀j u,news[j]? =some u→w.cell? ((⟨b2,o2,none⟩:Addr).add j)=some u:=fun j u e=>by rw [a2N];exact hS.holds _ _ _ (hnk j u e)
 obtain⟨i,hi,hiz,his,hib⟩:=hU.info_
 have hnl':news.length=n2*i.size:=by rw [hnl,his]
 have hbd':(n+n2)*i.bytes≤140737488355328:=by rw [hib];exact hbd
 have hmax: ∀old,grownCap w (n+n2) old U≤maxLen:=fun old=>grownCap_le_maxLen w (n+n2) old U (by simp [maxLen];omega)
 have hzl: ∀cap,(Builtin.zeroCells zero.cells (cap-(n+n2))).toList.length=(cap-(n+n2))*sz:=fun cap=>by
  rw [Array.length_toList,size_zeroCells,hzs]
 have hnew: ∀(cap:Nat),n+n2≤cap→cap≤maxLen→SH w0 K0 M (w.drew.alloc (.cells (cs.toArray++news.toArray++Builtin.zeroCells zero.cells (cap-(n+n2))) U)) K (N0 (.slice (some ⟨w.heap.size,0,none⟩) (n+n2) cap) (cs++news) U sz::L):=fun cap h1 h2=>by
  have h3:=hS.drop.drew.newRowI (cs:=cs++news) (rest:=(Builtin.zeroCells zero.cells (cap-(n+n2))).toList) (n:=n+n2) (cap:=cap) (sz:=sz) U (by rw [j8,hcl,hnl,Nat.add_mul])
   (by rw [j8,j8,hcl,hnl,hzl,←Nat.add_mul,←Nat.add_mul];congr 1;omega) h1 h2
  have e5:(cs.toArray++news.toArray++Builtin.zeroCells zero.cells (cap-(n+n2)))=(cs++news++(Builtin.zeroCells zero.cells (cap-(n+n2))).toList).toArray:=by
   apply Array.ext';simp
  rw [e5];exact h3
 rcases hS.rowI_cases (List.mem_cons_self ..) with ⟨rfl,rfl,rfl,rfl⟩ | ⟨g,cur,rfl,h1,h2,h3,h4,h5,h6,h7⟩
 ·refine⟨_,_,_,hgo _ _ (fun ty=>?_),hnew (grownCap w (0+n2) 0 U) (grownCap_ge w (0+n2) 0 U) (hmax 0)⟩
  have hr:=run_append_nil (P:=P) w T ty U i zero hT hi hiz ⟨b2,o2,none⟩ n2 c2 news hnl' hnc (by omega) (by omega) (by simp at hbd';omega)
  simp only [Nat.zero_add] at hr ⊢
  simpa using hr
 ·by_cases hroom:n+n2≤c
  ·have hfit:n*sz+news.length≤cur.size:=by rw [hnl,h5,←Nat.add_mul];exact Nat.mul_le_mul_right _ hroom
   have hfit':n*i.size+news.length≤cur.size:=by rw [his];exact hfit
   refine⟨_,_,_,hgo _ _ (fun ty=>run_append_room (P:=P) w T ty U i hT hi g n c cur h4 ⟨b2,o2,none⟩ n2 c2 news hnl' hnc hn1 hroom hfit'),?_⟩
   rw [his]
   refine hS.setRowI ?_ hroom (by rw [j8,hcl,hnl,Nat.add_mul]) ?_
   ·simp only [j8,List.length_take,List.length_drop,Array.length_toList];omega
   ·have h8:(n+n2)*sz=(cs++news).length:=by rw [j8,hcl,hnl,Nat.add_mul]
    rw [h6,h8,List.take_left]
  ·refine⟨_,_,_,hgo _ _ (fun ty=>?_),hnew (grownCap w (n+n2) c U) (grownCap_ge w (n+n2) c U) (hmax c)⟩
   exact run_append_grow (P:=P) w T ty U i zero hT hi hiz ⟨g,0,none⟩ n c cs (by rw [hcl,his]) (fun j v e=>by rw [a2N,Nat.zero_add];exact hS.row_cell (List.mem_cons_self ..) e) ⟨b2,o2,none⟩ n2 c2 news hnl' hnc
    (by omega) (by omega) (growslice_fits (by omega) hbd')
theorem a5C {a:Option Addr}{n c n2 c2 b2 o2 sz:Nat}{cs news:List Value}(hw:H2 ops N E gd)(hd:Nat.blt d N=true)(hT:P.underlying T=some (.slice U))(hU:TF P U sz agg zero bytes)(hzs:zero.cells.size=sz)
  (hx:ev E x=some (.slice a n c))(hy:ev E y=some (.slice (some ⟨b2,o2,none⟩) n2 c2))(h0:0<n2)(hnl:news.length=n2*sz)(hnk:D7 K b2 o2 news)(hn1: ∀c∈news,c.oneCell'=true)(hcl:cs.length=n*sz)
  (hsum:n+n2≤140737488355328)(hbd:(n+n2)*bytes≤140737488355328)(hS:SH w0 K0 M w K (N0 (.slice a n c) cs U sz::L))
  (h: ∀g c' w',SH w0 K0 M w' K (N0 (.slice (some ⟨g,0,none⟩) (n+n2) c') (cs++news) U sz::L)→WL P ops Q N rest ((d,.slice (some ⟨g,0,none⟩) (n+n2) c')::E) w'):
  WL P ops Q N (⟨some d,.call {callee:=.builtin .append,args:=#[x,y],argTypes:=#[T,T]},ty,pos,af,gd⟩::rest) E w:=by
 obtain⟨g,c',w',h1,h2⟩:=a8R hT hU hzs hx hy h0 hnl hnk hn1 hcl hsum hbd hS
 exact a3M hw hd h1 (h g c' w' h2)
theorem b2W {α:Type}{t:Ty α}{a a2:Option Addr}{n c n2 c2:Nat}{xs ys zs:List α}{cs:List Value}(hT:P.underlying T=some (.slice U))(hU:TF P U t.size agg zero bytes)(hzs:zero.cells.size=t.size)
  (hb:Nat.blt 0 bytes=true)(hx:ev E x=some (.slice a n c))(hy:ev E y=some (.slice a2 n2 c2))(hr:A9 true t K cs xs)(hn:n=xs.length)(hs2:b7 t K a2 n2 c2 ys)(hz:J5 bytes xs ys=some zs)
  (hS:SH w0 K0 M w K (N0 (.slice a n c) cs U t.size::L)):
  ∃a' n' c' cs' w',a1O P E w (.call {callee:=.builtin .append,args:=#[x,y],argTypes:=#[T,T]}) (.ok (.value (.slice a' n' c')) w')∧A9 true t K cs' zs∧n'=zs.length∧
   SH w0 K0 M w' K (N0 (.slice a' n' c') cs' U t.size::L):=by
 have hb':0<bytes:=by simpa [Nat.blt_eq] using hb
 obtain⟨f1,f2,f3,f4⟩:=hs2
 unfold J5 at hz
 split at hz
 case isFalse=>cases hz
 rename_i hbound
 cases hz
 have hsum:n+n2≤140737488355328:=by
  have:=Nat.le_mul_of_pos_right (xs.length+ys.length) hb'
  omega
 have hcl:cs.length=n*t.size:=by rw [hr.1.2 rfl,hn]
 by_cases hm:n2=0
 ·have hy0:ys=[]:=List.eq_nil_of_length_eq_zero (by omega)
  subst hy0
  have hnc:n≤c:=by
   rcases hS.rowI_cases (List.mem_cons_self ..) with ⟨_,h1,h2,_⟩ | ⟨g,cur,_,h1,_⟩
   ·omega
   ·exact h1
  exact⟨a,n,c,cs,w,fun ρ _ ty _ _ _ ha=>by simp [execOp,resolve,invoke,builtin,ha x _ hx,ha y _ hy,a3U (P:=P) (w:=w) (a2:=a2) (c2:=c2) hT hU rfl hnc hm ty],by simpa using hr,by simpa using hn,hS⟩
 obtain⟨b2,o2,rfl,hel2⟩:=f4 (by omega)
 obtain⟨news,hnl,hnk,hn1,hnr⟩:=b0s t K b2 ys o2 hel2
 obtain⟨g,c',w',h1,h2⟩:=a8R hT hU hzs hx hy (by omega) (by rw [hnl,f1]) hnk hn1 hcl hsum (by rw [hn,f1];exact hbound) hS
 exact⟨_,_,_,_,w',h1,hr.append hnl hn1 hnr,by simp [hn,f1],h2⟩
theorem a9b {α:Type}{t:Ty α}{a a2:Option Addr}{n c n2 c2:Nat}{xs ys zs:List α}{cs:List Value}(hw:H2 ops N E gd)(hd:Nat.blt d N=true)(hT:P.underlying T=some (.slice U))(hU:TF P U t.size agg zero bytes)(hzs:zero.cells.size=t.size)
  (hb:Nat.blt 0 bytes=true)(hx:ev E x=some (.slice a n c))(hy:ev E y=some (.slice a2 n2 c2))(hr:A9 true t K cs xs)(hn:n=xs.length)(hs2:b7 t K a2 n2 c2 ys)(hz:J5 bytes xs ys=some zs)
  (hS:SH w0 K0 M w K (N0 (.slice a n c) cs U t.size::L))
  (h: ∀a' n' c' cs' w',A9 true t K cs' zs→n'=zs.length→SH w0 K0 M w' K (N0 (.slice a' n' c') cs' U t.size::L)→WL P ops Q N rest ((d,.slice a' n' c')::E) w'):
  WL P ops Q N (⟨some d,.call {callee:=.builtin .append,args:=#[x,y],argTypes:=#[T,T]},ty,pos,af,gd⟩::rest) E w:=by
 obtain⟨a',n',c',cs',w',h1,h2,h3,h4⟩:=b2W hT hU hzs hb hx hy hr hn hs2 hz hS
 exact a3M hw hd h1 (h a' n' c' cs' w' h2 h3 h4)
theorem a2k {α:Type}{t:Ty α}{a:Option Addr}{g m c:Nat}{xs:List α}{k:IntKind}{i:Int}{e:α}(hT:P.underlying T=some (.slice U))(hU:TF P U t.size agg zero bytes)
  (hx:ev E x=some (.slice a m c))(hy:ev E y=some (.int k i))(ha:a=some ⟨g,0,none⟩)(hm:m=xs.length)(hz:p8 xs i=some e):RV P E w (.indexAddr T x y) (.pointer (some ⟨g,i.toNat*t.size,none⟩)):=by
 subst ha;exact N6 hT hU hx hy hm hz
def a5k (a:Option Addr)(cs:List Value)(w:World):Prop:=∀g,a=some ⟨g,0,none⟩→∀(j:Nat) v,cs[j]? =some v→w.cell? ⟨g,j,none⟩=some v
theorem SH.hasRow {a:Option Addr}{n c sz:Nat}{cs:List Value}(h:SH w0 K0 M w K L)(hm:N0 (.slice a n c) cs U sz∈L):a5k a cs w:=fun g e j v hj=>by
 subst e;exact h.row_cell hm hj
theorem QC.hasRow {a:Option Addr}{n c sz:Nat}{cs:List Value}(hw:QC w0 K0 M K L w')(hm:N0 (.slice a n c) cs U sz∈L):a5k a cs w':=
 let ⟨_,hS,_⟩:=hw
 hS.hasRow hm
theorem a1w {a:Option Addr}{g o o':Nat}{cs:List Value}{v:Value}(hT:TF P T size false zero bytes)(hx:ev E x=some (.pointer (some ⟨g,o',none⟩)))(ho:o'=o)(hv:cs[o]? =some v)(ha:a=some ⟨g,0,none⟩)(hH:a5k a cs w):RV P E w (.load T x) v:=by
 subst ho
 refine a1j hT hx (cs:=[v]) (fun j c e=>?_) (.inr ⟨rfl,rfl⟩)
 cases j with
 | zero=>simp at e;subst e;exact hH g ha _ _ hv
 | succ j=>simp at e
theorem b4T {a:Option Addr}{g o:Nat}{cs ds:List Value}(hT:TF P T size true zero bytes)(hx:ev E x=some (.pointer (some ⟨g,o,none⟩)))(hv: ∀j d,ds[j]? =some d→cs[o+j]? =some d)(hl:ds.length=size)(ha:a=some ⟨g,0,none⟩)(hH:a5k a cs w):RV P E w (.load T x) (.agg ds.toArray):=
 a1j hT hx (fun j c e=>hH g ha _ _ (hv j c e)) (.inl ⟨rfl,hl,rfl⟩)
theorem b2b {cs ds vs:List Value}{p off:Nat}(hk: ∀(j:Nat) d,ds[j]? =some d→cs[p+j]? =some d)(hfit:off+vs.length≤ds.length):H9 cs (p+off) vs=H9 cs p (H9 ds off vs):=by
 have hlen:ds.length=0∨p+ds.length≤cs.length:=by
  rcases Nat.eq_zero_or_pos ds.length with h | h
  ·exact .inl h
  ·have:=(g8.1 (hk (ds.length-1) _ (i6 (by omega)))).1
   exact .inr (by omega)
 have hsl:(H9 ds off vs).length=ds.length:=by simp only [H9,j8,List.length_take,List.length_drop];omega
 rcases hlen with h0 | hlen
 ·have hv:vs=[]:=List.eq_nil_of_length_eq_zero (by omega)
  have hd:ds=[]:=List.eq_nil_of_length_eq_zero h0
  have ho:off=0:=by omega
  subst hv hd ho
  simp [H9]
 ·apply List.ext_getElem?
  intro i
  simp only [H9,List.append_assoc]
  rcases Nat.lt_or_ge i p with h1 | h1
  ·rw [List.getElem?_append_left (by rw [List.length_take];omega),List.getElem?_append_left (by rw [List.length_take];omega),List.getElem?_take,List.getElem?_take,if_pos (by omega),if_pos h1]
  ·obtain⟨k,rfl⟩:=Nat.exists_eq_add_of_le h1
   rw [List.getElem?_append_right (l₁:=cs.take p) (by rw [List.length_take];omega),show p+k-(cs.take p).length=k from by rw [List.length_take];omega]
   have htk:(ds.take off).length=off:=by rw [List.length_take];omega
   have htp:(cs.take (p+off)).length=p+off:=by rw [List.length_take];omega
   have hsl2:(ds.take off++(vs++ds.drop (off+vs.length))).length=ds.length:=by rw [←List.append_assoc];exact hsl
   rcases Nat.lt_or_ge k off with h2 | h2
   ·rw [List.getElem?_append_left (by omega),List.getElem?_take,if_pos (by omega),List.getElem?_append_left (by omega),List.getElem?_take,if_pos h2]
    exact hk k _ (i6 (by omega)) |>.trans (i6 (by omega)).symm
   ·rw [List.getElem?_append_right (by omega),htp,List.getElem?_append_right (l₁:=ds.take off) (by omega),htk,show p+k-(p+off)=k-off from by omega]
    rcases Nat.lt_or_ge (k-off) vs.length with h3 | h3
    ·rw [List.getElem?_append_left h3,List.getElem?_append_left h3]
    ·rw [List.getElem?_append_right h3,List.getElem?_drop,List.getElem?_append_right h3]
     rcases Nat.lt_or_ge k ds.length with h4 | h4
     ·rw [List.getElem?_append_left (by rw [List.length_drop];omega),List.getElem?_drop]
      rw [show off+vs.length+(k-off-vs.length)=k from by omega,show p+off+vs.length+(k-off-vs.length)=p+k from by omega]
      exact hk k _ (i6 h4) |>.trans (i6 h4).symm
     ·rw [List.getElem?_append_right (by rw [List.length_drop];omega),List.getElem?_drop,List.length_drop]
      congr 1
      omega
theorem a7e {cs vs:List Value}{o m:Nat}(h:o+vs.length≤m)(hm:m≤cs.length):(cs.take o++vs++cs.drop (o+vs.length)).take m=H9 (cs.take m) o vs:=by
 have h1:(cs.take o).length=o:=by rw [List.length_take];omega
 have h2:(cs.take o++vs).length=o+vs.length:=by rw [j8,h1]
 rw [List.take_append,h2,List.take_of_length_le (by omega)]
 unfold H9
 rw [List.take_take,show min o m=o from by omega,List.drop_take]
theorem b5l {α:Type}{t:Ty α}{a:Option Addr}{g n c o off:Nat}{i:Int}{cs ds:List Value}{xs:List α}{v u:Value}{e e':α}(hw:H2 ops N E gd)(hT:TF P T size agg zero bytes)(hx:ev E x=some (.pointer (some ⟨g,o,none⟩)))(hy:ev E y=some v)
  (ho:o=i.toNat*t.size+off)(hsz:v.cells.size=size)(hones: ∀c∈v.cells.toList,c.oneCell'=true)(ha:a=some ⟨g,0,none⟩)
  (hS:SH w0 K0 M w K (N0 (.slice a n c) cs U t.size::L))(hr:A9 true t K cs xs)(hn:n=xs.length)(hz:p8 xs i=some e')(hk: ∀(j:Nat) d,ds[j]? =some d→cs[i.toNat*t.size+j]? =some d)
  (hfit:Nat.ble (off+size) ds.length=true)(hds:H9 ds off v.cells.toList=u.cells.toList)(hu:t.rel K u e)
  (h: ∀cs' w',A9 true t K cs' (xs.set i.toNat e)→n=(xs.set i.toNat e).length→SH w0 K0 M w' K (N0 (.slice a n c) cs' U t.size::L)→WL P ops Q N rest E w'):WL P ops Q N (⟨none,.store T x y,ty,pos,af,gd⟩::rest) E w:=by
 subst ha
 have hfit':off+size≤ds.length:=by simpa using hfit
 have hvl:v.cells.toList.length=size:=by simpa using hsz
 obtain⟨g0,g1,g2⟩:=a0j hz
 have hi:=(g8.1 g2).1
 rcases hS.rowI_cases (List.mem_cons_self ..) with ⟨h1,_⟩ | ⟨g',cur,h1,h2,h3,h4,h5,h6,h7,h8⟩
 ·cases h1
 injection h1 with h1
 injection h1 with h1 _ _
 subst h1
 have hsp:H9 cs o v.cells.toList=H9 cs (i.toNat*t.size) u.cells.toList:=by
  rw [ho,b2b hk (by omega),hds]
 have hul:u.cells.toList.length=t.size:=by simpa using t.size_eq hu
 have hdl:ds.length=t.size:=by rw [←hul,←hds];simp only [H9,j8,List.length_take,List.length_drop];omega
 have hle:(i.toNat+1)*t.size≤xs.length*t.size:=Nat.mul_le_mul_right _ hi
 rw [Nat.add_mul,Nat.one_mul] at hle
 have hcl:=hr.1.2 rfl
 have hcc:n*t.size≤c*t.size:=Nat.mul_le_mul_right _ h2
 have hst:=U3 (P:=P) g o U (0,0) v.cells.toList 0 cur w h5 (.inl rfl) (by rw [hvl,h6];omega) hones
 simp only [Nat.add_zero] at hst
 refine b2q (w':=w.setRow g (cur.toList.take o++v.cells.toList++cur.toList.drop (o+v.cells.toList.length)).toArray) hw (fun ρ _ _ _ _ _ ha=>?_) ?_
 ·simp [execOp,ha x _ hx,ha y _ hy,Instr.storeAt,Instr.sureAddr,storeVar,H8 hT,hsz,hst]
 ·refine h (H9 cs o v.cells.toList) _ (by rw [hsp];exact hr.set hi hu) (by rw [List.length_set];exact hn) (hS.setRowI ?_ h2 ?_ ?_)
  ·simp only [j8,List.length_take,List.length_drop,Array.length_toList];omega
  ·simp only [H9,j8,List.length_take,List.length_drop];omega
  ·subst h7
   have hol:o+v.cells.toList.length≤n*t.size:=by rw [hvl];omega
   exact a7e (m:=n*t.size) hol (by rw [Array.length_toList];omega)
theorem b27 (cs:List Value)(o:Nat)(v:Value)(h:o<cs.length):H9 cs o [v]=cs.set o v:=by
 apply List.ext_getElem?
 intro k
 have h1:(cs.take o).length=o:=by rw [List.length_take];omega
 simp only [H9,List.append_assoc,l6,List.getElem?_set]
 by_cases hk:k<o
 ·rw [List.getElem?_append_left (by omega),List.getElem?_take,if_pos hk,if_neg (by omega)]
 ·rw [List.getElem?_append_right (by omega),h1]
  by_cases hk2:k=o
  ·subst hk2;rw [if_pos rfl,Nat.sub_self];simp [h]
  ·rw [if_neg (Ne.symm hk2),List.getElem?_append_right (by simp;omega),List.getElem?_drop]
   congr 1;simp;omega
theorem b0a {g n c o sz:Nat}{cs:List Value}{v:Value}(hw:H2 ops N E gd)(hT:TF P T 1 agg zero bytes)(hx:ev E x=some (.pointer (some ⟨g,o,none⟩)))(hy:ev E y=some v)(hv:v.oneCell'=true)
  (hS:SH w0 K0 M w K (N0 (.slice (some ⟨g,0,none⟩) n c) cs U sz::L))(ho:o<cs.length)
  (h: ∀w',SH w0 K0 M w' K (N0 (.slice (some ⟨g,0,none⟩) n c) (cs.set o v) U sz::L)→WL P ops Q N rest E w'):WL P ops Q N (⟨none,.store T x y,ty,pos,af,gd⟩::rest) E w:=by
 rcases hS.rowI_cases (List.mem_cons_self ..) with ⟨h1,_⟩ | ⟨g',cur,h1,h2,h3,h4,h5,h6,h7,h8⟩
 ·cases h1
 injection h1 with h1
 injection h1 with h1 _ _
 subst h1
 have hcc:n*sz≤c*sz:=Nat.mul_le_mul_right _ h2
 have hst:=U3 (P:=P) g o U (0,0) [v] 0 cur w h5 (.inl rfl) (by simp;omega) (by simpa using hv)
 simp only [Nat.add_zero] at hst
 refine b2q (w':=w.setRow g (cur.toList.take o++[v]++cur.toList.drop (o+[v].length)).toArray) hw (fun ρ _ _ _ _ _ ha=>?_) ?_
 ·simp [execOp,ha x _ hx,ha y _ hy,Instr.storeAt,Instr.sureAddr,storeVar,H8 hT,b4i hv,hst]
 ·refine h _ (hS.setRowI ?_ h2 (by rw [List.length_set];exact h4) ?_)
  ·simp only [j8,List.length_take,List.length_drop,Array.length_toList,l6];omega
  ·subst h7
   rw [a7e (m:=n*sz) (by simp;omega) (by rw [Array.length_toList];omega),b27 _ _ _ ho]
theorem SH.freezeI {α:Type}{t:Ty α}{a:Option Addr}{n c:Nat}{cs:List Value}{xs:List α}(h:SH w0 K0 M w K (N0 (.slice a n c) cs U t.size::L))(hr:A9 true t K cs xs)(hn:n=xs.length):
  ∃K',H7 K K'∧b7 t K' a n c xs∧SH w0 K0 M w K' (tail (.slice a n c) U t.size::L):=by
 rcases h.rowI_cases (List.mem_cons_self ..) with ⟨rfl,rfl,rfl,rfl⟩ | ⟨g,cur,rfl,h1,h2,h3,h4,h5,h6,h7⟩
 ·have:xs=[]:=List.eq_nil_of_length_eq_zero hn.symm
  subst this
  exact⟨K,.refl _,.nil t K,h.drop.nil U t.size⟩
 have hlt:=h.own
 have hle:H7 K (K.put g (fun o=>cs[o]?)):=fun b o v e'=>by
  by_cases hb:b=g
  ·rw [hb,h7] at e';cases e'
  ·rw [K.put_other _ hb];exact e'
 refine⟨_,hle,b7.of_cells hn h1 h2 (fun i z hz=>?_),?_⟩
 ·obtain⟨u,hu,hk⟩:=hr.2.2 i z hz
  exact⟨u,t.mono hle hu,fun j d e=>by rw [K.put_same];exact hk j d e⟩
 ·refine h.drop.step (w':=w) rfl rfl rfl (Nat.le_refl _) (by omega) (fun b _ _=>rfl) hlt.1 hlt.2 h.apart (fun b hb=>K.put_other _ hb) (fun o v e=>hle g o v e)
   (fun o v e=>?_) rfl ⟨.inr ⟨g,_,_,rfl,h1,h2⟩,g,_,_,_,rfl,h4,h5,fun i hi=>?_⟩
  ·rw [K.put_same] at e;exact h.row_cell (List.mem_cons_self ..) e
  ·rw [K.put_same,List.getElem?_eq_none];rw [h3];exact hi
end
end Go.Fk
namespace Go.Fk
open Go
def a4X {α:Type}(t:Ty α)(K:C7)(v:Value):Option α→Prop
 | none=>v= .pointer none
 | some x=>b5s t K v x
theorem a4X.mono {α:Type}{t:Ty α}{K K':C7}(h:H7 K K'){v:Value}{m:Option α}(p:a4X t K v m):a4X t K' v m:=by
 cases m with
 | none=>exact p
 | some x=>exact b5s.mono h p
theorem a4X.get {α:Type}{t:Ty α}{K:C7}{v:Value}{m:Option α}{x:α}(p:a4X t K v m)(hx:m=some x): ∃b o u,v= .pointer (some ⟨b,o,none⟩)∧t.rel K u x∧D7 K b o u.cells.toList:=by
 subst hx;exact p
section
variable {P:Program}{E:X6}{w:World}{K:C7}{x y:Operand}{T T' U:TypeId}
theorem a3V {v:Value}{α:Type}{t:Ty α}{m:Option α}(d:Nat)(hT:P.underlying T=some (.pointer U))(p:a4X t K v m):(Op.equalIn (d+1) T v (.pointer none)).run P w= .ok m.isNone w:=by
 cases m with
 | none=>
  have hv:v= .pointer none:=p
  subst hv
  simp [Op.equalIn,run_underlying hT]
 | some z=>
  obtain⟨b,o,u,rfl,_⟩:=p
  simp [Op.equalIn,run_underlying hT]
theorem b7C {v:Value}{α:Type}{t:Ty α}{m:Option α}(hT:P.underlying T=some (.pointer U))(hx:ev E x=some v)(hy:ev E y=some (.pointer none))(p:a4X t K v m):RV P E w (.binOp .eql T x y T') (.bool m.isNone):=
 fun ρ _ _ _ _ _ ha=>by
  have h:=a3V (P:=P) (w:=w) 9999 hT p
  simp only [execOp,ha x _ hx,ha y _ hy]
  have hv: ∃q,v= .pointer q:=by
   cases m with
   | none=>exact⟨none,p⟩
   | some z=>obtain⟨b,o,u,e,_⟩:=p;exact⟨_,e⟩
  obtain⟨q,rfl⟩:=hv
  simp only [eqGuard,binOp,Op.equal,Op.maxDepth]
  simp [h]
theorem b2Y {v:Value}{α:Type}{t:Ty α}{m:Option α}(hT:P.underlying T=some (.pointer U))(hx:ev E x=some v)(hy:ev E y=some (.pointer none))(p:a4X t K v m):RV P E w (.binOp .neq T x y T') (.bool m.isSome):=
 fun ρ _ _ _ _ _ ha=>by
  have h:=a3V (P:=P) (w:=w) 9999 hT p
  simp only [execOp,ha x _ hx,ha y _ hy]
  have hv: ∃q,v= .pointer q:=by
   cases m with
   | none=>exact⟨none,p⟩
   | some z=>obtain⟨b,o,u,e,_⟩:=p;exact⟨_,e⟩
  obtain⟨q,rfl⟩:=hv
  simp only [eqGuard,binOp,Op.equal,Op.maxDepth]
  simp [h]
def FG (P:Program)(T:TypeId)(f:Nat)(ft:TypeId)(off:Nat):Prop:=
 (match P.underlying T with | some (.struct fs)=>(fs[f]?).map (fun fd=>(fd.type,fd.offset)) | _=>none)=some (ft,off)
theorem b6j {f off size bytes:Nat}{ft:TypeId}{cs:Array Value}{v zero:Value}{agg:Bool}(hF:FG P T f ft off)(hT:TF P ft size agg zero bytes)(hx:ev E x=some (.agg cs))
  (hv:(agg=false∧cs[off]? =some v)∨(agg=true∧v= .agg (cs.extract off (off+size)))):RV P E w (.field T x f) v:=fun ρ _ _ _ _ _ ha=>by
 unfold FG at hF
 split at hF
 ·rename_i fs hu
  obtain⟨fd,hfd,e⟩:=Option.map_eq_some_iff.1 hF
  simp only [Prod.mk.injEq] at e
  obtain⟨rfl,rfl⟩:=e
  have hp:(part fd.type cs fd.offset).run P w= .ok v w:=by
   rcases hv with ⟨rfl,hv⟩ | ⟨rfl,rfl⟩
   ·simp [part,a2j hT,hv]
   ·simp [part,a2j hT,H8 hT]
  have h1:(Instr.field T (.agg cs) f).run P w= .ok v w:=by
   simp only [Instr.field,Sem.run_bind,run_underlying hu,Result.andThen_ok,hfd,asAgg,Sem.run_pure,hp]
  simp only [execOp,ha x _ hx,Sem.run_bind,h1,Result.andThen_ok]
  rfl
 ·cases hF
section
variable {ops:Array Oper}{Q:Exit→Act→World→Prop}{N size bytes:Nat}{zero:Value}{agg:Bool}{z:Operand}{d:Tmp}{ty:TypeId}{pos:String}{af:Array Edge}{gd:Option (Nat×Bool)}{H F:World→Prop}{st:Nat}{I:List (Nat×Nat)}
end
end
end Go.Fk
namespace Go.Fk
open Go
set_option linter.unusedSectionVars false
variable [dr:Dr]
variable {P:Program}
def a2m (es:Array MapEntry)(m:List l3):Prop:=es.toList.map (fun x=>(x.key,x.val))=m.map fun s=>(sv s,Value.bool true)
theorem a2m.at {es:Array MapEntry}{m:List l3}(h:a2m es m)(i:Nat):(es.toList[i]?).map (fun x=>(x.key,x.val))=(m[i]?).map fun s=>(sv s,Value.bool true):=by
 have:=congrArg (fun l=>l[i]?) h
 simpa [List.getElem?_map] using this
theorem a2m.isKey {es:Array MapEntry}{m:List l3}(h:a2m es m): ∀x∈es.toList,MapKept.IsKey .string x.key:=fun x hx=>by
 obtain⟨i,hi⟩:=List.getElem?_of_mem hx
 have:=h.at i
 rw [hi] at this
 cases hm:m[i]? with
 | none=>rw [hm] at this;cases this
 | some p=>
  rw [hm] at this
  simp only [Option.map_some,Option.some.injEq,Prod.mk.injEq] at this
  rw [this.1];simp [MapKept.IsKey,sv]
theorem b96 {s r:l3}(h:sv s=sv r):s=r:=by
 unfold sv at h
 injection h with h
 injection h with h
 simpa using h
def b4S (s:l3)(m:List l3):List l3:=if m.contains s then m else m++[s]
def b1F (m:List l3):Option Int:=if m.length≤maxLen then some (m.length:Int) else none
theorem b3x {m:List l3}{n:Int}(h:b1F m=some n):n=(m.length:Int)∧j5 n:=by
 unfold b1F at h
 split at h
 ·rename_i hl
  obtain rfl:=Option.some.inj h
  exact⟨rfl,a2L hl⟩
 ·cases h
theorem b6h {w:World}{t k e:TypeId}{b:Nat}{es:Array MapEntry}{clock:Nat}{m:List l3}{s:l3}(ht:P.underlying t=some (.map k e))(hk:P.underlying k=some .string)
  (hb:w.heap[b]? =some (.map es clock))(hm:a2m es m)(hs:MapKept.Stamped es clock):
  ∃es' clock',(Instr.mapUpdate t (.map (some b)) (sv s) (.bool true)).run P w= .ok () {w with heap:=w.heap.setIfInBounds b (.map es' clock')}∧a2m es' (b4S s m)∧MapKept.Stamped es' clock':=by
 have hkey:MapKept.IsKey .string (sv s):=by simp [MapKept.IsKey,sv]
 rcases MapKept.findNow_spec hkey es.toList 0 hm.isKey with ⟨h1,h2⟩ | ⟨j,e0,h1,h2,h3⟩
 ·refine⟨es.push ⟨sv s,.bool true,clock⟩,clock+1,?_,?_,MapKept.stamped_push hs h2⟩
  ·simp [Instr.mapUpdate,run_underlying ht,MapKept.run_getObj_map hb,MapKept.run_checkKey hk hkey,MapKept.run_findKey hk h1,MapKept.run_setObj_map _ hb,Result.andThen]
  ·have hno:m.contains s=false:=by
    rw [Bool.eq_false_iff]
    intro hc
    obtain⟨i,hi⟩:=List.getElem?_of_mem (List.contains_iff_mem.1 hc)
    have:=hm.at i
    rw [hi] at this
    cases hx:es.toList[i]? with
    | none=>rw [hx] at this;cases this
    | some x=>
     rw [hx] at this
     simp only [Option.map_some,Option.some.injEq,Prod.mk.injEq] at this
     exact h2 x (m8 hx) this.1
   unfold b4S
   rw [hno,if_neg (by decide)]
   unfold a2m at hm ⊢
   rw [Array.toList_push,List.map_append,hm,List.map_append];rfl
 ·have hp:m[j]? =some s:=by
   have:=hm.at j
   rw [h2] at this
   cases hx:m[j]? with
   | none=>rw [hx] at this;cases this
   | some p=>
    rw [hx] at this
    simp only [Option.map_some,Option.some.injEq,Prod.mk.injEq] at this
    rw [h3] at this
    rw [b96 this.1]
  have hj:es[j]? =some e0:=by rw [←Array.getElem?_toList];exact h2
  have hstay:(Instr.keyThatStays (((es[j]?).map (·.key)).getD (sv s)) (sv s)).run P w= .ok (sv s) w:=by
   rw [hj]
   simp only [Option.map_some,Option.getD_some,h3]
   exact MapKept.run_keyThatStays hkey
  refine⟨es.modify j fun e=>{e with key:=sv s,val:=.bool true},clock,?_,?_,?_⟩
  ·simp only [Instr.mapUpdate,Sem.run_bind,run_underlying ht,MapKept.run_getObj_map hb,MapKept.run_checkKey hk hkey,MapKept.run_findKey hk h1,Nat.zero_add,hstay,MapKept.run_setObj_map _ hb,Result.andThen]
  ·have hin:m.contains s=true:=List.contains_iff_mem.2 (m8 hp)
   unfold b4S
   rw [hin,if_pos rfl]
   unfold a2m at hm ⊢
   rw [Array.toList_modify]
   apply List.ext_getElem?
   intro i
   have h0:=congrArg (fun l=>l[i]?) hm
   simp only [List.getElem?_map] at h0 ⊢
   rw [List.getElem?_modify]
   by_cases hij:j=i
   ·subst hij
    rw [h2,hp]
    simp
   ·rw [←h0]
    simp [hij]
  ·exact MapKept.stamped_modify hs j _ (fun e _=>rfl) (fun e _ he=>by rw [hj] at he;cases he;exact h3.symm)
def a7m (g:Nat)(m:List l3):B8:=one (some g) True fun o k=>(∃es clock,o=some (.map es clock)∧a2m es m∧MapKept.Stamped es clock)∧∀i,k i=none
section
variable {ops:Array Oper}{Q:Exit→Act→World→Prop}{N:Nat}{E:X6}{w w0:World}{K K0:C7}{M:List Nat}{L:List B8}{x y z:Operand}
variable {d:Tmp}{ty:TypeId}{pos:String}{af:Array Edge}{gd:Option (Nat×Bool)}{rest:List Oper}
theorem SH.newMapT (h:SH w0 K0 M w K L):SH w0 K0 M (w.alloc (.map #[] 0)) K (a7m w.heap.size []::L):=by
 have hn: ∀o,K w.heap.size o=none:=h.ge_none (Nat.le_refl _)
 refine h.step rfl rfl rfl (by simp) (by simp) (fun b hb _=>RowKit.Below.heap_alloc w _ b hb) (by simp) (.inl h.size) h.fresh (fun _ _=>rfl) (fun _ _ e=>e) (fun o v e=>?_) rfl ⟨trivial,⟨⟨#[],0,Go.heap_alloc_new w _,rfl,MapKept.stamped_empty 0⟩,hn⟩⟩
 rw [hn] at e;cases e
theorem SH.mapTAt {g:Nat}{m:List l3}(h:SH w0 K0 M w K L)(hi:a7m g m∈L): ∃es clock,w.heap[g]? =some (.map es clock)∧a2m es m∧MapKept.Stamped es clock:=
 ((h.items _ hi).2 g rfl).1
theorem SH.mapTSet {g:Nat}{m m':List l3}{es':Array MapEntry}{clock':Nat}(h:SH w0 K0 M w K (a7m g m::L))(hm:a2m es' m')(hs:MapKept.Stamped es' clock'):
  SH w0 K0 M {w with heap:=w.heap.setIfInBounds g (.map es' clock')} K (a7m g m'::L):=by
 have hown:=h.own
 have hap:=h.apart
 have hn:=((h.items _ (List.mem_cons_self ..)).2 g rfl).2
 refine(h.drop).step rfl rfl rfl (by simp) (by simp) (fun b hb hne=>by simp [Ne.symm hne]) (by simpa using hown.1) hown.2 hap (fun _ _=>rfl) (fun _ _ e=>e) (fun o v e=>?_) rfl ⟨trivial,⟨⟨es',clock',by simp [hown.1],hm,hs⟩,hn⟩⟩
 rw [hn] at e;cases e
theorem b2r {T:TypeId}(hw:H2 ops N E gd)(hd:Nat.blt d N=true)(hS:SH w0 K0 M w K L)
  (h: ∀g w',SH w0 K0 M w' K (a7m g []::L)→WL P ops Q N rest ((d,.map (some g))::E) w'):WL P ops Q N (⟨some d,.makeMap T none,ty,pos,af,gd⟩::rest) E w:=
 a3M (v:=.map (some w.heap.size)) (w':=w.alloc (.map #[] 0)) hw hd (fun ρ _ _ _ _ _ _=>by
  simp [execOp,Instr.makeMap,newObj,Result.andThen];rfl) (h _ _ hS.newMapT)
theorem b0P {T k e:TypeId}{g:Nat}{m:List l3}{n:Int}(ht:P.underlying T=some (.map k e))(hx:ev E x=some (.map (some g)))(hi:a7m g m∈L)(hS:SH w0 K0 M w K L)(hn:b1F m=some n):
  RV P E w (.call {callee:=.builtin .len,args:=#[x],argTypes:=#[T]}) (.int .i64 n):=fun ρ _ _ _ _ _ ha=>by
 obtain⟨es,clock,hb,hm,hs⟩:=hS.mapTAt hi
 obtain⟨rfl,_⟩:=b3x hn
 have hl:es.size=m.length:=by
  have:=congrArg List.length hm
  simpa using this
 simp [execOp,resolve,invoke,builtin,ha x _ hx,Builtin.len_,run_underlying ht,MapKept.run_getObj_map hb,goInt,hl]
theorem b7R {T k e:TypeId}{g:Nat}{m:List l3}{s:l3}(hw:H2 ops N E gd)(ht:P.underlying T=some (.map k e))(hk:P.underlying k=some .string)
  (hx:ev E x=some (.map (some g)))(hy:ev E y=some (sv s))(hv:ev E z=some (.bool true))(hS:SH w0 K0 M w K (a7m g m::L))
  (h: ∀w',SH w0 K0 M w' K (a7m g (b4S s m)::L)→WL P ops Q N rest E w'):WL P ops Q N (⟨none,.mapUpdate T x y z,ty,pos,af,gd⟩::rest) E w:=by
 obtain⟨es,clock,hb,hm,hs⟩:=hS.mapTAt (List.mem_cons_self ..)
 obtain⟨es',clock',hr,hm',hs'⟩:=b6h (P:=P) (s:=s) ht hk hb hm hs
 refine b2q hw (fun ρ _ _ _ _ _ ha=>?_) (h _ (hS.mapTSet hm' hs'))
 simp only [execOp,ha x _ hx,ha y _ hy,ha z _ hv,Sem.run_bind,hr,Result.andThen_ok]
 rfl
end
end Go.Fk
namespace Go.Fk
open Go
set_option linter.unusedSectionVars false
variable [dr:Dr]
variable {P:Program}{w w':World}{K:C7}
def a8r (sep:l3)(xs:List l3):Option l3:=if xs.length≤140737488355328∧(Lib.join xs sep).length≤140737488355328 then some (Lib.join xs sep) else none
theorem SH.of_below (hD: ¬dr.D)(h:SH w K [] w K [])(hb:RowKit.Below w.heap.size w w'):SH w K [] w' K []:=
 ⟨hb.os,hb.tape,hb.output,fun b o v e=>by
  have hlt:=h.holds.lt e
  rw [World.cell?_of_block (w:=w) (a:=⟨b,o,none⟩) (hb.block b hlt)]
  exact h.holds b o v e,h.le,hb.size,fun b hlt _=>hb.block b hlt,fun _ _ _=>rfl,by simp,by simp,by simp,fun d=>(hD d).elim⟩
theorem a9N {f:FuncId}(hnone: ∀(a:Option Addr) (c:Nat) (sep:ByteArray) (w:World),Calls P f #[.slice a 0 c,.string sep] w fun e w'=>e= .returned (.string ⟨#[]⟩)∧w'=w)
  (hjoin: ∀(bk o c:Nat) (xs:List ByteArray) (sep:ByteArray) (w:World) (_: ∀(j:Nat) x,xs[j]? =some x→w.cell? ⟨bk,o+j,none⟩=some (.string x)) (_:bk<w.heap.size) (_:xs.length≤140737488355328) (_:xs.length≤c)
   (_:(Lib.join (xs.map (·.data.toList)) sep.data.toList).length≤140737488355328),
   Calls P f #[.slice (some ⟨bk,o,none⟩) xs.length c,.string sep] w fun e w'=>e= .returned (.string ⟨(Lib.join (xs.map (·.data.toList)) sep.data.toList).toArray⟩)∧RowKit.Below w.heap.size w w')
  {a:Option Addr}{n c:Nat}{xs:List l3}{sep z:l3}(hS:SH w K [] w K [])(hs:b7 B3 K a n c xs)(hD: ¬dr.D)(hz:a8r sep xs=some z):
  Calls P f #[.slice a n c,sv sep] w fun e w'=>∃(K':C7),e= .returned (sv z)∧SH w K [] w' K' []∧z.length≤maxLen:=by
 unfold a8r at hz
 split at hz
 ·rename_i hb0
  obtain⟨hlen0,hlen⟩:=hb0
  cases hz
  obtain⟨rfl,h2,h3,h4⟩:=hs
  cases xs with
  | nil=>
   refine(hnone a c ⟨sep.toArray⟩ w).mono fun e w' ⟨he,hw⟩=>?_
   subst he hw
   exact⟨K,rfl,hS,by simp [Lib.join,maxLen]⟩
  | cons x r=>
   obtain⟨b,o,rfl,h5⟩:=h4 (Nat.lt_of_lt_of_le (by simp) h2)
   have hm:((x::r).map fun s:l3=>(⟨s.toArray⟩:ByteArray)).map (·.data.toList)=x::r:=by
    rw [List.map_map]
    exact List.map_id'' (fun s=>by simp) _
   have hcell: ∀(j:Nat) y,((x::r).map fun s:l3=>(⟨s.toArray⟩:ByteArray))[j]? =some y→w.cell? ⟨b,o+j,none⟩=some (.string y):=fun j y hj=>by
    rw [List.getElem?_map] at hj
    obtain⟨s,hs,rfl⟩:=Option.map_eq_some_iff.1 hj
    obtain⟨u,⟨rfl,_⟩,hk⟩:=h5 j s hs
    have:=hS.holds b (o+j) _ (by simpa [sv,Value.cells,B3] using hk 0 (sv s) (by simp [sv,Value.cells]))
    exact this
   have hbk:b<w.heap.size:=by
    obtain⟨u,⟨rfl,_⟩,hk⟩:=h5 0 x rfl
    exact hS.holds.lt (by simpa [sv,Value.cells,B3] using hk 0 (sv x) (by simp [sv,Value.cells]))
   have hc:=hjoin b o c ((x::r).map fun s:l3=>(⟨s.toArray⟩:ByteArray)) ⟨sep.toArray⟩ w hcell hbk (by rw [List.length_map];exact hlen0) (by rw [List.length_map];exact h2) (by rw [hm];exact hlen)
   rw [hm,List.length_map] at hc
   exact hc.mono fun e w' ⟨he,hb⟩=>⟨K,he,hS.of_below hD hb,Nat.le_trans hlen (by decide)⟩
 ·cases hz
section
variable {E:X6}{x y:Operand}{T T':TypeId}
def nnI (n:Int):Option Int:=if 0≤n then some n else none
theorem b0C {n m:Int}(hr:j5 n)(h:nnI n=some m):m=n∧0≤m∧j5 m:=by
 unfold nnI at h
 split at h
 ·cases h;exact⟨rfl,by assumption,hr⟩
 ·cases h
theorem b8W {n m:Int}(hT:P.underlying T=some (.int .i64))(hT':P.underlying T'=some (.int .u64))(hx:ev E x=some (.int .i64 n))(hr:j5 n)(hm:nnI n=some m):RV P E w (.convert T T' x) (.int .u64 m):=
 fun ρ _ _ _ _ _ ha=>by
  obtain⟨rfl,h0,h1⟩:=b0C hr hm
  have e:IntKind.u64.wrap m=m:=by
   simp only [IntKind.wrap,IntKind.bits]
   unfold j5 at h1
   simp
   omega
  simp only [execOp,ha x _ hx];simp [convert,run_underlying hT,run_underlying hT',Conv.intToInt,e]
theorem b7E {k':IntKind}{a b c:Int}(hx:ev E x=some (.int .u64 a))(hy:ev E y=some (.int k' b))(hc:b12 a b=some c):RV P E w (.binOp .shr T x y T') (.int .u64 c):=
 fun ρ _ _ _ _ _ ha=>by
  unfold b12 at hc
  split at hc
  ·cases hc
  ·rename_i hb;cases hc;simp only [execOp,ha x _ hx,ha y _ hy];simp [eqGuard,binOp,Op.shift,hb,IntKind.bits]
theorem b8Y {k:IntKind}{n:Int}(hT:P.underlying T=some (.int .u64))(hT':P.underlying T'=some (.int .i64))(hx:ev E x=some (.int k n))(hr:j5 n):RV P E w (.convert T T' x) (.int .i64 n):=
 fun ρ _ _ _ _ _ ha=>by
  have e:IntKind.i64.wrap n=n:=B9 hr
  simp only [execOp,ha x _ hx];simp [convert,run_underlying hT,run_underlying hT',Conv.intToInt,e]
end
end Go.Fk
namespace Go.Fk
open Go
set_option linter.unusedSectionVars false
variable [dr:Dr]
variable {P:Program}{α:Type}
def a32 (cells:α→List Value)(es:Array MapEntry)(m:List (Int×α)):Prop:=
 es.toList.map (fun x=>(x.key,x.val))=m.map fun p=>(Value.int .i64 p.1,Value.agg (cells p.2).toArray)
structure a73 (cells:α→List Value)(v b:Nat)(m:List (Int×α))(w:World):Prop where
 var: ∃T fr,w.heap[v]? =some (.cells #[.map (some b)] T fr)
 map: ∃es clock m',w.heap[b]? =some (.map es clock)∧a32 cells es m'∧m'.Perm m
variable {cells:α→List Value}{v b:Nat}{m:List (Int×α)}{w0 w:World}{K0 K:C7}{L:List B8}
theorem a73.keep (h:a73 cells v b m w0)(hS:SH w0 K0 [] w K L):a73 cells v b m w:=by
 obtain⟨⟨T,fr,h1⟩,es,clock,m',h2,h3⟩:=h
 have l1:v<w0.heap.size:=(Array.getElem?_eq_some_iff.1 h1).1
 have l2:b<w0.heap.size:=(Array.getElem?_eq_some_iff.1 h2).1
 exact⟨⟨T,fr,(hS.old v l1 (by simp)).trans h1⟩,es,clock,m',(hS.old b l2 (by simp)).trans h2,h3⟩
theorem a32.at {es:Array MapEntry}(h:a32 cells es m)(i:Nat):(es.toList[i]?).map (fun x=>(x.key,x.val))=(m[i]?).map fun p=>(Value.int .i64 p.1,Value.agg (cells p.2).toArray):=by
 have:=congrArg (fun l=>l[i]?) h
 simpa [List.getElem?_map] using this
theorem a32.isKey {es:Array MapEntry}(h:a32 cells es m): ∀x∈es.toList,MapKept.IsKey (.int .i64) x.key:=fun x hx=>by
 obtain⟨i,hi⟩:=List.getElem?_of_mem hx
 have:=h.at i
 rw [hi] at this
 cases hm:m[i]? with
 | none=>rw [hm] at this;cases this
 | some p=>
  rw [hm] at this
  simp only [Option.map_some,Option.some.injEq,Prod.mk.injEq] at this
  rw [this.1];simp [MapKept.IsKey]
def a14 (m:List (Int×α))(n:Int):Option α:=(m.find? fun p=>p.1==n).map (·.2)
theorem a28 {ok:α→Prop}{z:α}(hm: ∀p∈m,ok p.2)(hz:ok z)(n:Int):ok ((a14 m n).getD z):=by
 unfold a14
 cases h:m.find? fun p=>p.1==n with
 | none=>exact hz
 | some p=>exact hm p (List.mem_of_find?_eq_some h)
theorem a8i: ∀{m:List (Int×α)} {j:Nat} {p:Int×α} {n:Int},(m.Pairwise fun a b=>a.1≠b.1)→m[j]? =some p→p.1=n→m.find? (fun p=>p.1==n)=some p
 | [],_,_,_,_,h,_=>by simp at h
 | q::r,0,p,_,_,h,hp=>by
  simp only [List.getElem?_cons_zero,Option.some.injEq] at h
  subst h
  rw [List.find?_cons,beq_iff_eq.2 hp]
 | q::r,j+1,p,n,hd,h,hp=>by
  have hc:=List.pairwise_cons.1 hd
  rw [List.getElem?_cons_succ] at h
  have h1:(q.1==n)=false:=beq_eq_false_iff_ne.2 fun e=>hc.1 p (m8 h) (e.trans hp.symm)
  rw [List.find?_cons,h1]
  exact a8i hc.2 h hp
theorem b2M {m m':List (Int×α)}(hp:m'.Perm m)(hd:m.Pairwise fun a b=>a.1≠b.1)(n:Int):a14 m' n=a14 m n:=by
 unfold a14
 cases h:m'.find? fun p=>p.1==n with
 | none=>
  rw [List.find?_eq_none.2 fun p hm=>?_]
  exact List.find?_eq_none.1 h p (hp.mem_iff.2 hm)
 | some p=>
  obtain⟨j,hj⟩:=List.getElem?_of_mem (hp.mem_iff.1 (List.mem_of_find?_eq_some h))
  have e:(p.1==n)=true:=List.find?_some (p:=fun p:Int×α=>p.1==n) h
  rw [a8i hd hj (eq_of_beq e)]
theorem b4V {t k e:TypeId}{es:Array MapEntry}{clock:Nat}{n:Int}{z:α}(ht:P.underlying t=some (.map k e))(hk:P.underlying k=some (.int .i64))(hz:(zeroValue e).run P w= .ok (.agg (cells z).toArray) w)
  (hb:w.heap[b]? =some (.map es clock))(hm:a32 cells es m)(hd:m.Pairwise fun a b=>a.1≠b.1):
  (Instr.lookup t (.map (some b)) (.int .i64 n) true).run P w= .ok (.tuple #[.agg (cells ((a14 m n).getD z)).toArray,.bool (a14 m n).isSome]) w:=by
 have hkey:MapKept.IsKey (.int .i64) (.int .i64 n):=by simp [MapKept.IsKey]
 rcases MapKept.findNow_spec hkey es.toList 0 hm.isKey with ⟨h1,h2⟩ | ⟨j,e0,h1,h2,h3⟩
 ·have hl:a14 m n=none:=by
   unfold a14
   rw [List.find?_eq_none.2 fun p hp hn=>?_]
   ·rfl
   ·obtain⟨i,hi⟩:=List.getElem?_of_mem hp
    have:=hm.at i
    rw [hi] at this
    cases hx:es.toList[i]? with
    | none=>rw [hx] at this;cases this
    | some x=>
     rw [hx] at this
     simp only [Option.map_some,Option.some.injEq,Prod.mk.injEq] at this
     exact h2 x (m8 hx) (by rw [this.1,eq_of_beq hn])
  rw [hl]
  simp [Instr.lookup,run_underlying ht,MapKept.run_getObj_map hb,MapKept.run_checkKey hk hkey,MapKept.run_findKey hk h1,hz,Result.andThen]
 ·have hv: ∃x,a14 m n=some x∧e0.val= .agg (cells x).toArray:=by
   have:=hm.at j
   rw [h2] at this
   cases hx:m[j]? with
   | none=>rw [hx] at this;cases this
   | some p=>
    rw [hx] at this
    simp only [Option.map_some,Option.some.injEq,Prod.mk.injEq] at this
    rw [h3] at this
    have hpn:p.1=n:=by have:=this.1;injection this with _ e;exact e.symm
    have hfind:=a8i hd hx hpn
    exact⟨p.2,by unfold a14;rw [hfind];rfl,this.2⟩
  obtain⟨x,hl,hv⟩:=hv
  rw [hl]
  simp [Instr.lookup,run_underlying ht,MapKept.run_getObj_map hb,MapKept.run_checkKey hk hkey,MapKept.run_findKey hk h1,Result.andThen,hv]
variable {E:X6}{T k e:TypeId}{x y:Operand}{n:Int}{size bytes:Nat}{agg:Bool}{z:α}
theorem b6k {zero:Value}(hT:TF P T size false zero bytes)(hx:ev E x=some (.pointer (some ⟨v,0,none⟩)))(hG:a73 cells v b m w):RV P E w (.load T x) (.map (some b)):=by
 obtain⟨T',fr,h1⟩:=hG.var
 refine a1j hT hx (cs:=[.map (some b)]) (fun j c e=>?_) (.inr ⟨rfl,rfl⟩)
 cases j with
 | zero=>simp at e;subst e;simp [World.cell?,h1]
 | succ j=>simp at e
theorem b6l (ht:P.underlying T=some (.map k e))(hk:P.underlying k=some (.int .i64))(hz:TF P e size agg (.agg (cells z).toArray) bytes)
  (hx:ev E x=some (.map (some b)))(hy:ev E y=some (.int .i64 n))(hG:a73 cells v b m w)(hd:m.Pairwise fun a b=>a.1≠b.1):
  RV P E w (.lookup T x y true) (.tuple #[.agg (cells ((a14 m n).getD z)).toArray,.bool (a14 m n).isSome]):=fun ρ _ _ _ _ _ ha=>by
 obtain⟨es,clock,m',hb,hm,hp⟩:=hG.map
 have:=b4V (P:=P) (n:=n) ht hk (a1I hz w) hb hm ((hp.pairwise_iff fun h=>h.symm).2 hd)
 rw [b2M hp hd] at this
 simp only [execOp,ha x _ hx,ha y _ hy,Sem.run_bind,this,Result.andThen_ok]
 rfl
end Go.Fk
namespace Go.Fk
open Go
theorem b7.imp {α:Type}{t t':Ty α}{K:C7}(hs:t'.size=t.size)(h: ∀{u x},t.rel K u x→t'.rel K u x){a:Option Addr}{n c:Nat}{xs:List α}(p:b7 t K a n c xs):b7 t' K a n c xs:=
 ⟨p.1,p.2.1,p.2.2.1,fun hc=>let ⟨b,o,e1,h5⟩:=p.2.2.2 hc;⟨b,o,e1,fun i x hx=>let ⟨u,r,k⟩:=h5 i x hx;⟨u,h r,by rw [hs];exact k⟩⟩⟩
structure Lay (α:Type) where
 F:Ty α→Ty α
 size:Nat
 agg:Bool
 size_F: ∀t,(F t).size=size
 agg_F: ∀t,(F t).agg=agg
 mono_F: ∀{t t':Ty α} {K:C7},t'.size=t.size→(∀{u x},t.rel K u x→t'.rel K u x)→∀{u x},(F t).rel K u x→(F t').rel K u x
namespace Lay
variable {α:Type}(L:Lay α)
def ty:Nat→Ty α
 | 0=>⟨L.size,L.agg,fun _ _ _=>False,fun _ _ _ h=>h,fun h=>h.elim,fun h=>h.elim,fun h=>h.elim⟩
 | n+1=>L.F (ty n)
theorem ty_size: ∀n,(L.ty n).size=L.size
 | 0=>rfl
 | _+1=>L.size_F _
theorem ty_agg: ∀n,(L.ty n).agg=L.agg
 | 0=>rfl
 | _+1=>L.agg_F _
theorem ty_succ {K:C7}: ∀{n:Nat} {u:Value} {x:α},(L.ty n).rel K u x→(L.ty (n+1)).rel K u x
 | 0,_,_,h=>h.elim
 | n+1,_,_,h=>L.mono_F (by rw [ty_size,ty_size]) (fun h=>ty_succ h) h
theorem ty_le {K:C7}{n m:Nat}(hnm:n≤m){u:Value}{x:α}(h:(L.ty n).rel K u x):(L.ty m).rel K u x:=by
 induction hnm with
 | refl=>exact h
 | step _ ih=>exact L.ty_succ ih
def all:Ty α where
 size:=L.size
 agg:=L.agg
 rel:=fun K v x=>∃n,(L.ty n).rel K v x
 mono:=fun h _ _ ⟨n,r⟩=>⟨n,(L.ty n).mono h r⟩
 shape:=fun⟨n,r⟩=>L.ty_agg n▸(L.ty n).shape r
 size_eq:=fun⟨n,r⟩=>((L.ty n).size_eq r).trans (L.ty_size n)
 ones:=fun⟨n,r⟩=>(L.ty n).ones r
theorem some_bound {K:C7}{A:Nat→Value→Prop}: ∀(xs:List α),(∀(i:Nat) x,xs[i]? =some x→∃u,L.all.rel K u x∧A i u)→
  ∃N,∀(i:Nat) x,xs[i]? =some x→∃u,(L.ty N).rel K u x∧A i u:=by
 intro xs
 induction xs generalizing A with
 | nil=>exact fun _=>⟨0,fun i x h=>by simp at h⟩
 | cons y r ih=>
  intro h
  obtain⟨N,hN⟩:=ih (A:=fun i u=>A (i+1) u) fun i x hx=>h (i+1) x (by simpa using hx)
  obtain⟨u,⟨m,hm⟩,ha⟩:=h 0 y rfl
  refine⟨max N m,fun i x hx=>?_⟩
  cases i with
  | zero=>
   simp only [List.getElem?_cons_zero,Option.some.injEq] at hx
   subst hx
   exact⟨u,L.ty_le (by omega) hm,ha⟩
  | succ i=>
   obtain⟨u',h1,h2⟩:=hN i x (by simpa using hx)
   exact⟨u',L.ty_le (by omega) h1,h2⟩
theorem slice_bound {K:C7}{a:Option Addr}{n c:Nat}{xs:List α}(p:b7 L.all K a n c xs): ∃N,b7 (L.ty N) K a n c xs:=by
 obtain⟨h1,h2,h3,h4⟩:=p
 by_cases hc:0<c
 ·obtain⟨b,o,e,h5⟩:=h4 hc
  obtain⟨N,hN⟩:=L.some_bound (A:=fun i u=>D7 K b (o+i*L.size) u.cells.toList) xs h5
  exact⟨N,h1,h2,h3,fun _=>⟨b,o,e,fun i x hx=>let ⟨u,r,k⟩:=hN i x hx;⟨u,r,by rw [L.ty_size];exact k⟩⟩⟩
 ·exact⟨0,h1,h2,h3,fun h=>(hc h).elim⟩
theorem all_eq (hb: ∀{K:C7} {u:Value} {x:α},(L.F L.all).rel K u x→∃n,(L.F (L.ty n)).rel K u x):L.all=L.F L.all:=by
 have hr:L.all.rel=(L.F L.all).rel:=by
  funext K v x
  refine propext ⟨fun⟨n,r⟩=>?_,fun h=>?_⟩
  ·cases n with
   | zero=>exact r.elim
   | succ n=>exact L.mono_F (t:=L.ty n) (t':=L.all) (L.ty_size n).symm (fun h=>⟨n,h⟩) r
  ·obtain⟨n,r⟩:=hb h
   exact⟨n+1,r⟩
 have hs:L.all.size=(L.F L.all).size:=(L.size_F _).symm
 have hg:L.all.agg=(L.F L.all).agg:=(L.agg_F _).symm
 revert hr hs hg
 generalize L.F L.all=y
 generalize L.all=x
 intro hr hs hg
 cases x;cases y
 simp only at hr hs hg
 subst hr hs hg
 rfl
end Lay
end Go.Fk
namespace Go.Fk
open Go Go.ChangeShapes Go.WideShapes Go.ChangeAt Go.RowKit Go.WideElems
set_option linter.unusedSectionVars false
section
variable {H:Type}{enc:TypeId×Value→H}{P:Program}{W W':World}
theorem b3a (hl:laidOutB P=true)(hb:Below W.heap.size W W'){sp:Nat→Bool}: ∀{ns:List String} {gs:List (DataW H)} {ps:List MemPlace},varsRowed P ns=true→
  DataW.TrodVars enc P W (fun _=>true) ns gs ps→(∀p∈ps,sp p.block=true)→DataW.TrodVars enc P W' sp ns gs ps:=by
 intro ns
 induction ns with
 | nil=>intro gs ps _ h _;cases gs with
  | nil=>exact h
  | cons d ds=>exact h.elim
 | cons n ns ih=>
  intro gs ps hv h hsp
  cases gs with
  | nil=>exact h.elim
  | cons d ds=>
   have k:=Below.trodVars hl hb hv h
   have hlt:=h.lt
   obtain⟨g,t,cs,fuel,p,q,h1,h2,h3,h4,hs,rfl⟩:=h
   obtain⟨g',t',cs',_,_,_,k1,k2,k3,_,_,_⟩:=k
   obtain rfl:=Option.some.inj (h1.symm.trans k1)
   obtain rfl:=Option.some.inj (h2.symm.trans k2)
   simp only [varsRowed,List.all_cons,l5] at hv
   have ht:P.readableRec t=true∧t<P.types.size:=by
    have hv1:=hv.1
    obtain⟨gl,hg,rfl⟩:=Option.map_eq_some_iff.1 h2
    rw [h1,a8,hg] at hv1
    simpa using hv1
   have hcs:cs'=cs:=by
    have hg:g<W.heap.size:=by
     rcases Nat.lt_or_ge g W.heap.size with hh | hh
     ·exact hh
     ·simp [World.var?,h1,Array.getElem?_eq_none hh] at h3
    have e:W'.var? P n=W.var? P n:=by simp only [World.var?,h1,a8,hb.block g hg]
    exact Option.some.inj (k3.symm.trans (e.trans h3))
   subst hcs
   have hp: ∀x∈p,x∈MemPlace.row ⟨g,0,none⟩ cs'.size++p++q:=fun x hx=>by simp [hx]
   exact⟨g,t,cs',fuel,p,q,h1,h2,k3,DataW.trod_stays (kids_book hl ht.1) (book_sized ht.1) (fun e=>by cases e) ⟨ht.2,book_self t⟩ h4 (fun x hx=>hb.same (hlt x (hp x hx))) (fun x hx=>hsp x (hp x hx)),
    ih (by simpa [varsRowed] using hv.2) hs (fun x hx=>hsp x (by simp [hx])),rfl⟩
theorem a26 {t:TypeId}{k:IntKind}{base fuel:Nat}{sp:Nat→Bool}{held:Bool}{cs:List Value}{y:DataW H×List MemPlace}{n:Int}(ht:P.underlying t=some (.int k))(h:DataW.trod enc P W base sp held fuel t cs=some y)(e:y.1= .lit (.int k n)):cs=[.int k n]:=by
 obtain⟨m,rfl,rfl,_⟩:=DataW.trod_int ht h
 simp only [DataW.lit.injEq,Lit.int.injEq,true_and] at e
 rw [e]
theorem a9y {t:TypeId}{base fuel:Nat}{sp:Nat→Bool}{held:Bool}{cs:List Value}{y:DataW H×List MemPlace}{b:Bool}(ht:P.underlying t=some .bool)(h:DataW.trod enc P W base sp held fuel t cs=some y)(e:y.1= .lit (.bool b)):cs=[.bool b]:=by
 obtain⟨m,rfl,rfl⟩:=DataW.trod_bool ht h
 simp only [DataW.lit.injEq,Lit.bool.injEq] at e
 rw [e]
theorem b5B {cs vs:List Value}(hl:cs.length=vs.length)(h: ∀i v,vs[i]? =some v→(cs.drop i).take 1=[v]):cs=vs:=by
 refine List.ext_getElem? fun i=>?_
 cases hv:vs[i]? with
 | none=>rw [List.getElem?_eq_none_iff] at hv ⊢;omega
 | some v=>
  have:=congrArg (fun l:List Value=>l[0]?) (h i v hv)
  simpa using this
variable {α:Type}{cells:α→List Value}{encD:α→DataW Unit}{m:List (Int×α)}{k e:TypeId}
theorem b7M {R:Value→Option (DataW Unit×List MemPlace)}{es:Array MapEntry}{clock:Nat}(hk:P.underlying k=some (.int .i64))(F:Fit P k R es clock)
  (hx:(es.toList.map (rg P k R)).foldr DataW.insert []=m.map fun p=>(Lit.int .i64 p.1,encD p.2))(hR: ∀v a z,R v=some z→z.1=encD a→v= .agg (cells a).toArray)
  (dec:Lit×DataW Unit→Int×α)(hdec: ∀p:Int×α,dec (Lit.int .i64 p.1,encD p.2)=p): ∃m',a32 cells es m'∧m'.Perm m:=by
 have hp:(es.toList.map (rg P k R)).Perm (m.map fun p=>(Lit.int .i64 p.1,encD p.2)):=by rw [←hx];exact(sorted_perm _).symm
 refine⟨(es.toList.map (rg P k R)).map dec,?_,?_⟩
 ·unfold a32
  rw [List.map_map,List.map_map]
  refine List.map_congr_left fun x hxm=>?_
  obtain⟨y,hy⟩:=F.reads x hxm
  have hym:y∈m.map fun p=>(Lit.int .i64 p.1,encD p.2):=hp.mem_iff.1 (List.mem_map.2 ⟨x,hxm,rg_of hy⟩)
  obtain⟨p,_,rfl⟩:=List.mem_map.1 hym
  simp only [Function.comp_apply,rg_of hy,hdec]
  have h1:=rd_key hy
  obtain⟨z,h2,h3⟩:=rd_val hy
  rw [keyOf_int hk] at h1
  rw [hR _ p.2 z h2 h3.symm]
  unfold mapKey at h1
  rw [hk] at h1
  split at h1<;>simp_all
 ·have h1:=hp.map dec
  have hid:((m.map fun p:Int×α=>(Lit.int .i64 p.1,encD p.2)).map dec)=m:=by
   rw [List.map_map,show (dec∘fun p:Int×α=>(Lit.int .i64 p.1,encD p.2))=id from funext hdec,List.map_id]
  rwa [hid] at h1
end
end Go.Fk
