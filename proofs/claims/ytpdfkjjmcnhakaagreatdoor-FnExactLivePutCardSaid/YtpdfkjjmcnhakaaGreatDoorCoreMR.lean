import Derived.Test.YtpdfkjjmcnhakaaGreatDoorCoreAL
import Derived.Carry
/-
  Whatever a row's reading of an argument takes (numbers, texts, slices, structs of them), it reads as plain data in the world that the call finds. Of no program.
-/
namespace Go.Fk
open Go Go.ChangeShapes Go.WideShapes Go.ChangeAt Go.RowKit
section
variable {H:Type}{enc:TypeId×Value→H}{P:Program}{W W':World}{t e:TypeId}
def Opens {α:Type}(enc:TypeId×Value→H)(P:Program)(W:World)(t:TypeId)(T:Ty α):Prop:=
 ∀fuel cs x,DataW.trod enc P W 0 (fun _=>true) true fuel t cs=some x→∃u a,u.cells.toList=cs∧T.rel (allK W) u a
theorem opens_int (ht:P.underlying t=some (.int .i64)):Opens enc P W t tInt:=fun fuel cs x h=>by
 obtain⟨n,rfl,_,hw⟩:=DataW.trod_int ht h
 have hw': -9223372036854775808≤n∧n≤9223372036854775807:=by simpa [Lit.wf,IntKind.min,IntKind.max,IntKind.signed,IntKind.bits] using hw
 exact⟨.int .i64 n,n,rfl,rfl,hw'⟩
theorem opens_str (ht:P.underlying t=some .string):Opens enc P W t tStr:=fun fuel cs x h=>by
 obtain⟨s,rfl,_,hs⟩:=DataW.trod_string ht h
 refine⟨sv s.data.toList,s.data.toList,?_,rfl,by rw [Array.length_toList];exact hs⟩
 simp [sv,Value.cells]
theorem choose_list {α:Type}{Q:Nat→α→Prop}: ∀n,(∀i,i<n→∃x,Q i x)→∃xs:List α,xs.length=n∧∀(i:Nat) x,xs[i]? =some x→Q i x
 | 0,_=>⟨[],rfl,fun i x h=>by simp at h⟩
 | n+1,h=>by
  obtain⟨xs,hl,hx⟩:=choose_list n (fun i hi=>h i (by omega))
  obtain⟨y,hy⟩:=h n (by omega)
  refine⟨xs++[y],by simp [hl],fun i x hi=>?_⟩
  rcases Nat.lt_or_ge i n with hlt | hge
  ·rw [List.getElem?_append_left (by omega)] at hi
   exact hx i x hi
  ·have:i=n:=by
    have:=(List.getElem?_eq_some_iff.1 hi).1
    simp at this;omega
   subst this
   rw [List.getElem?_append_right (by omega),hl] at hi
   simp at hi
   subst hi
   exact hy
theorem opens_slice {α:Type}{T:Ty α}(ht:P.underlying t=some (.slice e))(hc:P.cellsOf e=T.size)(hpos:0<T.size)(he:Opens enc P W e T):Opens enc P W t (tSlice T):=fun fuel cs x h=>by
 rcases DataW.trod_slice ht h with ⟨rfl,_⟩ | ⟨a,len,cap,elems,rest,n,_,rfl,_,_,hl,hm,hlen,hel,hsp,_⟩
 ·exact⟨.slice none 0 0,[],rfl,none,0,0,rfl,rfl,Nat.le_refl _,Nat.zero_le _,fun h=>absurd h (Nat.lt_irrefl _)⟩
 ·obtain⟨hrl,hr⟩:=hsp rfl
  have each: ∀i,i<len→∃cs' y,W.cells? 0 (a.add (i*P.cellsOf e)) (P.cellsOf e)=some cs'∧DataW.trod enc P W 0 (fun _=>true) true n e cs'=some y:=fun i hi=>by
   have:=hel i hi
   rw [List.getElem?_eq_getElem (by omega),Option.bind_eq_some_iff] at this
   obtain⟨cs',h1,h2⟩:=this
   exact⟨cs',_,h1,h2⟩
  have spot:0<cap→a.spot=none:=fun h0=>by
   have hz: ∃cs',W.cells? 0 (a.add 0) (P.cellsOf e)=some cs':=by
    rcases Nat.eq_zero_or_pos len with h1 | h1
    ·subst h1
     have:=hr 0 (by omega)
     rw [List.getElem?_eq_getElem (by omega),Option.bind_eq_some_iff] at this
     obtain⟨cs',h2,_⟩:=this
     exact⟨cs',by simpa using h2⟩
    ·obtain⟨cs',_,h2,_⟩:=each 0 h1
     exact⟨cs',by simpa using h2⟩
   obtain⟨cs',h2⟩:=hz
   obtain⟨_,h3,h4⟩:=World.cells?_some h2
   have h5:=h4 0 (by omega)
   rw [List.getElem?_eq_getElem (by omega)] at h5
   have:=World.cell?_spot h5
   simpa [Addr.add] using this
  obtain⟨xs,hxl,hx⟩:=choose_list (Q:=fun i (z:α)=>∃u,T.rel (allK W) u z∧W.cells? 0 (a.add (i*T.size)) T.size=some u.cells.toList) len (fun i hi=>by
   obtain⟨cs',y,h1,h2⟩:=each i hi
   obtain⟨u,z,h3,h4⟩:=he _ _ _ h2
   exact⟨z,u,h4,by rw [h3,←hc];exact h1⟩)
  refine⟨.slice (some a) len cap,xs,rfl,some a,len,cap,rfl,hxl.symm,hl,hm,fun h0=>?_⟩
  obtain⟨b,off,sp⟩:=a
  have hs:=spot h0
  simp only at hs
  subst hs
  refine⟨b,off,rfl,fun i z hz=>?_⟩
  obtain⟨u,hu,hcl⟩:=hx i z hz
  refine⟨u,hu,fun j c hj=>?_⟩
  obtain⟨_,h3,h4⟩:=World.cells?_some hcl
  have hjl:=(List.getElem?_eq_some_iff.1 hj).1
  have h5:=h4 j (by omega)
  rw [hj,add_plain,add_plain] at h5
  exact h5
theorem take_drop_cut (cs:List Value)(o s:Nat):cs.drop o=(cs.drop o).take s++cs.drop (o+s):=by
 rw [←List.drop_drop,List.take_append_drop]
theorem open_arg {α:Type}{T:Ty α}{v:Value}{d:DataW H}{ps:List MemPlace}(ho:Opens enc P W t T)(hv: ∀u:Value,u.cells.toList=v.cells.toList→(∃a,T.rel (allK W) u a)→u=v)(h0:DataW.Trod enc P W 0 (fun _=>true) true t v d ps):
  ∃a,T.rel (allK W) v a:=by
 obtain⟨fuel,hf⟩:=h0
 obtain⟨u,a,h1,h2⟩:=ho _ _ _ hf
 exact⟨a,hv u h1 ⟨a,h2⟩▸h2⟩
end
end Go.Fk
namespace Go.Fk
open Go
set_option linter.unusedSectionVars false
variable [dr:Dr]
def rowI (v:Value)(cs:List Value)(T:TypeId)(sz:Nat):Item:=
 one v.ownBlock ((v= .slice none 0 0∧cs=[])∨∃g n cap,v= .slice (some ⟨g,0,none⟩) n cap∧n≤cap∧cap≤maxLen∧cs.length=n*sz)
 fun o k=>(∃g n cap cur,v= .slice (some ⟨g,0,none⟩) n cap∧o=some (.cells cur T (0,0))∧cur.size=cap*sz∧cur.toList.take (n*sz)=cs)∧∀i,k i=none
section
variable {P:Program}{ops:Array Oper}{Q:Exit→Act→World→Prop}{N:Nat}{E:Env}{w w0 w':World}{K K0:KMap}{M:List Nat}{L:List Item}{C:World→Prop}
variable {x y z:Operand}{T T' U:TypeId}{size bytes:Nat}{zero:Value}{agg:Bool}{rest:List Oper}{d:Tmp}{ty:TypeId}{pos:String}{af:Array Edge}{gd:Option (Nat×Bool)}
theorem SH.rowNil (h:SH w0 K0 M w K L)(T:TypeId)(sz:Nat):SH w0 K0 M w K (rowI (.slice none 0 0) [] T sz::L):=
 ⟨h.os,h.tape,h.output,h.holds,h.le,h.size,h.old,h.oldK,by
  intro it hi
  rcases List.mem_cons.1 hi with rfl | hi
  ·exact⟨.inl ⟨rfl,rfl⟩,fun b hb=>by simp [Value.ownBlock] at hb⟩
  ·exact h.items it hi,by
  intro it hi b hb
  rcases List.mem_cons.1 hi with rfl | hi
  ·simp [rowI,one,Value.ownBlock] at hb
  ·exact h.lt it hi b hb,by
  rw [List.flatMap_cons];exact h.nodup,h.drawn⟩
theorem SH.rowI_cases {a:Option Addr}{n c sz:Nat}{cs:List Value}(h:SH w0 K0 M w K L)(hm:rowI (.slice a n c) cs U sz∈L):
  (a=none∧n=0∧c=0∧cs=[])∨∃g cur,a=some ⟨g,0,none⟩∧n≤c∧c≤maxLen∧cs.length=n*sz∧w.heap[g]? =some (.cells cur U (0,0))∧cur.size=c*sz∧cur.toList.take (n*sz)=cs∧∀i,K g i=none:=by
 have hi:=h.items _ hm
 rcases hi.1 with ⟨h1,h2⟩ | ⟨g,n',cap,hv,h1,h2,h3⟩
 ·injection h1 with e1 e2 e3
  exact .inl ⟨e1,e2,e3,h2⟩
 ·injection hv with e1 e2 e3
  subst e1 e2 e3
  obtain⟨⟨g2,n2,c2,cur,hv2,h4,h5,h6⟩,h7⟩:=hi.2 g rfl
  injection hv2 with e1 e2 e3
  injection e1 with e1
  injection e1 with e1 _ _
  subst e1 e2 e3
  exact .inr ⟨g,cur,rfl,h1,h2,h3,h4,h5,h6,h7⟩
theorem SH.rowI_at {α:Type}{a:Option Addr}{n c sz:Nat}{cs:List Value}{xs:List α}{i:Int}{e:α}(h:SH w0 K0 M w K L)(hm:rowI (.slice a n c) cs U sz∈L)(hn:n=xs.length)(hz:getI xs i=some e): ∃g,a=some ⟨g,0,none⟩:=by
 obtain⟨_,g1,_⟩:=getI_some hz
 rcases h.rowI_cases hm with ⟨_,h2,_⟩ | ⟨g,cur,h1,_⟩
 ·omega
 ·exact⟨g,h1⟩
theorem SH.row_cell {g n c sz:Nat}{cs:List Value}(h:SH w0 K0 M w K L)(hm:rowI (.slice (some ⟨g,0,none⟩) n c) cs U sz∈L){j:Nat}{v:Value}(hj:cs[j]? =some v):w.cell? ⟨g,j,none⟩=some v:=by
 rcases h.rowI_cases hm with ⟨h1,_⟩ | ⟨g',cur,h1,h2,h3,h4,h5,h6,h7,h8⟩
 ·cases h1
 ·injection h1 with h1
  injection h1 with h1 _ _
  subst h1
  subst h7
  have hl:=(List.getElem?_eq_some_iff.1 hj).1
  rw [List.getElem?_take] at hj
  split at hj
  ·simpa [World.cell?,h5] using hj
  ·cases hj
theorem rowI_max {α:Type}{a:Option Addr}{n c sz:Nat}{cs:List Value}{xs:List α}(h:SH w0 K0 M w K L)(hm:rowI (.slice a n c) cs U sz∈L)(hn:n=xs.length):xs.length≤maxLen:=by
 rcases h.rowI_cases hm with ⟨_,h2,_⟩ | ⟨g,cur,_,h1,h2,_⟩<;>omega
theorem SH.newRowI (h:SH w0 K0 M w K L){cs rest:List Value}{n cap sz:Nat}(T:TypeId)(hl:cs.length=n*sz)(hr:(cs++rest).length=cap*sz)(hn:n≤cap)(hc:cap≤maxLen):
  SH w0 K0 M (w.alloc (.cells (cs++rest).toArray T)) K (rowI (.slice (some ⟨w.heap.size,0,none⟩) n cap) cs T sz::L):=by
 have hno: ∀o,K w.heap.size o=none:=h.ge_none (Nat.le_refl _)
 refine h.step rfl rfl rfl (by simp) (by simp) (fun b hb _=>RowKit.Below.heap_alloc w _ b hb) (by simp) (.inl h.size) h.fresh (fun _ _=>rfl) (fun _ _ e=>e) (fun o v e=>?_) rfl
  ⟨.inr ⟨_,_,_,rfl,hn,hc,hl⟩,⟨w.heap.size,n,cap,_,rfl,heap_alloc_new w _,by simpa using hr,?_⟩,hno⟩
 ·rw [hno] at e;cases e
 ·show (cs++rest).take (n*sz)=cs
  rw [List.take_append_of_le_length (by omega),List.take_of_length_le (by omega)]
theorem SH.setRowI {g n c n' sz:Nat}{cs cs' row:List Value}(h:SH w0 K0 M w K (rowI (.slice (some ⟨g,0,none⟩) n c) cs U sz::L))(hrl:row.length=c*sz)(hn:n'≤c)(hl:cs'.length=n'*sz)(ht:row.take (n'*sz)=cs'):
  SH w0 K0 M (w.setRow g row.toArray) K (rowI (.slice (some ⟨g,0,none⟩) n' c) cs' U sz::L):=by
 rcases h.rowI_cases (List.mem_cons_self ..) with ⟨h1,_⟩ | ⟨g',cur,h1,h2,h3,h4,h5,h6,h7,h8⟩
 ·cases h1
 injection h1 with h1
 injection h1 with h1 _ _
 subst h1
 have hlt:=h.own
 refine h.drop.step rfl rfl rfl (by simp [World.setRow]) (by simp [World.setRow]) (fun b _ hb=>setRow_other w g b _ hb) (by simp [World.setRow];exact hlt.1) hlt.2
  h.apart (fun _ _=>rfl) (fun _ _ e=>e) (fun o v e=>?_) rfl ⟨.inr ⟨g,n',c,rfl,hn,h3,hl⟩,⟨g,n',c,_,rfl,setRow_heap w g _ _ _ _ h5,by simpa using hrl,by simpa using ht⟩,h8⟩
 rw [h8] at e;cases e
theorem RowAt.append {α:Type}{t:Ty α}{cs news:List Value}{xs ys:List α}(h:RowAt true t K cs xs)(hnl:news.length=ys.length*t.size)(hn1: ∀c∈news,c.oneCell'=true)
  (hnr: ∀(k:Nat) z,ys[k]? =some z→∃u,t.rel K u z∧∀j d,u.cells.toList[j]? =some d→news[k*t.size+j]? =some d):RowAt true t K (cs++news) (xs++ys):=by
 obtain⟨⟨h1,h1x⟩,h2,h3⟩:=h
 have hcl:=h1x rfl
 have hlen:(cs++news).length=(xs++ys).length*t.size:=by rw [List.length_append,List.length_append,hcl,hnl,Nat.add_mul]
 refine⟨⟨by rw [hlen];exact Nat.le_refl _,fun _=>hlen⟩,fun c hc=>?_,fun i z hz=>?_⟩
 ·rcases List.mem_append.1 hc with hc | hc
  ·exact h2 c hc
  ·exact hn1 c hc
 ·by_cases hi:i<xs.length
  ·rw [List.getElem?_append_left hi] at hz
   obtain⟨u,hu,hk⟩:=h3 i z hz
   refine⟨u,hu,fun j d e=>?_⟩
   have:=hk j d e
   rw [List.getElem?_append_left (List.getElem?_eq_some_iff.1 this).1];exact this
  ·rw [List.getElem?_append_right (by omega)] at hz
   obtain⟨u,hu,hk⟩:=hnr _ z hz
   refine⟨u,hu,fun j d e=>?_⟩
   have h5:=hk j d e
   have hge:xs.length*t.size≤i*t.size:=Nat.mul_le_mul_right _ (by omega)
   rw [List.getElem?_append_right (by omega),hcl,←h5]
   congr 1
   rw [Nat.sub_mul];omega
theorem RowAt.nil {α:Type}(t:Ty α)(K:KMap):RowAt true t K [] ([]:List α):=⟨⟨by simp,fun _=>by simp⟩,by simp,fun i x h=>by simp at h⟩
theorem rt_appendI {a:Option Addr}{n c n2 c2 b2 o2 sz:Nat}{cs news:List Value}(hT:P.underlying T=some (.slice U))(hU:TF P U sz agg zero bytes)(hzs:zero.cells.size=sz)
  (hx:ev E x=some (.slice a n c))(hy:ev E y=some (.slice (some ⟨b2,o2,none⟩) n2 c2))(h0:0<n2)(hnl:news.length=n2*sz)(hnk:AtK K b2 o2 news)(hn1: ∀c∈news,c.oneCell'=true)(hcl:cs.length=n*sz)
  (hsum:n+n2≤140737488355328)(hbd:(n+n2)*bytes≤140737488355328)(hS:SH w0 K0 M w K (rowI (.slice a n c) cs U sz::L)):
  ∃g c' w',RunTo P E w (.call {callee:=.builtin .append,args:=#[x,y],argTypes:=#[T,T]}) (.ok (.value (.slice (some ⟨g,0,none⟩) (n+n2) c')) w')∧
   SH w0 K0 M w' K (rowI (.slice (some ⟨g,0,none⟩) (n+n2) c') (cs++news) U sz::L):=by
 have hgo: ∀v' w',(∀ty,(Builtin.append_ #[T,T] ty #[.slice a n c,.slice (some ⟨b2,o2,none⟩) n2 c2]).run P w= .ok v' w')→
   RunTo P E w (.call {callee:=.builtin .append,args:=#[x,y],argTypes:=#[T,T]}) (.ok (.value v') w'):=fun v' w' h ρ _ ty _ _ _ ha=>by
  simp [execOp,resolve,invoke,builtin,ha x _ hx,ha y _ hy,h]
 have hnc: ∀j u,news[j]? =some u→w.cell? ((⟨b2,o2,none⟩:Addr).add j)=some u:=fun j u e=>by rw [add_at];exact hS.holds _ _ _ (hnk j u e)
 obtain⟨i,hi,hiz,his,hib⟩:=hU.info_
 have hnl':news.length=n2*i.size:=by rw [hnl,his]
 have hbd':(n+n2)*i.bytes≤140737488355328:=by rw [hib];exact hbd
 have hmax: ∀old,grownCap w (n+n2) old U≤maxLen:=fun old=>grownCap_le_maxLen w (n+n2) old U (by simp [maxLen];omega)
 have hzl: ∀cap,(Builtin.zeroCells zero.cells (cap-(n+n2))).toList.length=(cap-(n+n2))*sz:=fun cap=>by
  rw [Array.length_toList,size_zeroCells,hzs]
 have hnew: ∀(cap:Nat),n+n2≤cap→cap≤maxLen→SH w0 K0 M (w.drew.alloc (.cells (cs.toArray++news.toArray++Builtin.zeroCells zero.cells (cap-(n+n2))) U)) K (rowI (.slice (some ⟨w.heap.size,0,none⟩) (n+n2) cap) (cs++news) U sz::L):=fun cap h1 h2=>by
  have h3:=hS.drop.drew.newRowI (cs:=cs++news) (rest:=(Builtin.zeroCells zero.cells (cap-(n+n2))).toList) (n:=n+n2) (cap:=cap) (sz:=sz) U (by rw [List.length_append,hcl,hnl,Nat.add_mul])
   (by rw [List.length_append,List.length_append,hcl,hnl,hzl,←Nat.add_mul,←Nat.add_mul];congr 1;omega) h1 h2
  have e5:(cs.toArray++news.toArray++Builtin.zeroCells zero.cells (cap-(n+n2)))=(cs++news++(Builtin.zeroCells zero.cells (cap-(n+n2))).toList).toArray:=by
   apply Array.ext';simp
  rw [e5];exact h3
 rcases hS.rowI_cases (List.mem_cons_self ..) with ⟨rfl,rfl,rfl,rfl⟩ | ⟨g,cur,rfl,h1,h2,h3,h4,h5,h6,h7⟩
 ·refine⟨_,_,_,hgo _ _ (fun ty=>?_),hnew (grownCap w (0+n2) 0 U) (grownCap_ge w (0+n2) 0 U) (hmax 0)⟩
  have hr:=run_append_nil (P:=P) w T ty U i zero hT hi hiz ⟨b2,o2,none⟩ n2 c2 news hnl' hnc (by omega) (by omega) (by simp at hbd';omega)
  simp only [Nat.zero_add] at hr ⊢
  simpa using hr
 ·by_cases hroom:n+n2≤c
  ·have hfit:n*sz+news.length≤cur.size:=by rw [hnl,h5,←Nat.add_mul];exact Nat.mul_le_mul_right _ hroom
   have hfit':n*i.size+news.length≤cur.size:=by rw [his];exact hfit
   refine⟨_,_,_,hgo _ _ (fun ty=>run_append_room (P:=P) w T ty U i hT hi g n c cur h4 ⟨b2,o2,none⟩ n2 c2 news hnl' hnc hn1 hroom hfit'),?_⟩
   rw [his]
   refine hS.setRowI ?_ hroom (by rw [List.length_append,hcl,hnl,Nat.add_mul]) ?_
   ·simp only [List.length_append,List.length_take,List.length_drop,Array.length_toList];omega
   ·have h8:(n+n2)*sz=(cs++news).length:=by rw [List.length_append,hcl,hnl,Nat.add_mul]
    rw [h6,h8,List.take_left]
  ·refine⟨_,_,_,hgo _ _ (fun ty=>?_),hnew (grownCap w (n+n2) c U) (grownCap_ge w (n+n2) c U) (hmax c)⟩
   exact run_append_grow (P:=P) w T ty U i zero hT hi hiz ⟨g,0,none⟩ n c cs (by rw [hcl,his]) (fun j v e=>by rw [add_at,Nat.zero_add];exact hS.row_cell (List.mem_cons_self ..) e) ⟨b2,o2,none⟩ n2 c2 news hnl' hnc
    (by omega) (by omega) (growslice_fits (by omega) hbd')
theorem wl_appendI {a:Option Addr}{n c n2 c2 b2 o2 sz:Nat}{cs news:List Value}(hw:Wanted ops N E gd)(hd:Nat.blt d N=true)(hT:P.underlying T=some (.slice U))(hU:TF P U sz agg zero bytes)(hzs:zero.cells.size=sz)
  (hx:ev E x=some (.slice a n c))(hy:ev E y=some (.slice (some ⟨b2,o2,none⟩) n2 c2))(h0:0<n2)(hnl:news.length=n2*sz)(hnk:AtK K b2 o2 news)(hn1: ∀c∈news,c.oneCell'=true)(hcl:cs.length=n*sz)
  (hsum:n+n2≤140737488355328)(hbd:(n+n2)*bytes≤140737488355328)(hS:SH w0 K0 M w K (rowI (.slice a n c) cs U sz::L))
  (h: ∀g c' w',SH w0 K0 M w' K (rowI (.slice (some ⟨g,0,none⟩) (n+n2) c') (cs++news) U sz::L)→WL P ops Q N rest ((d,.slice (some ⟨g,0,none⟩) (n+n2) c')::E) w'):
  WL P ops Q N (⟨some d,.call {callee:=.builtin .append,args:=#[x,y],argTypes:=#[T,T]},ty,pos,af,gd⟩::rest) E w:=by
 obtain⟨g,c',w',h1,h2⟩:=rt_appendI hT hU hzs hx hy h0 hnl hnk hn1 hcl hsum hbd hS
 exact wl_eff hw hd h1 (h g c' w' h2)
theorem rt_appendR {α:Type}{t:Ty α}{a a2:Option Addr}{n c n2 c2:Nat}{xs ys zs:List α}{cs:List Value}(hT:P.underlying T=some (.slice U))(hU:TF P U t.size agg zero bytes)(hzs:zero.cells.size=t.size)
  (hb:Nat.blt 0 bytes=true)(hx:ev E x=some (.slice a n c))(hy:ev E y=some (.slice a2 n2 c2))(hr:RowAt true t K cs xs)(hn:n=xs.length)(hs2:SliceAt t K a2 n2 c2 ys)(hz:catL bytes xs ys=some zs)
  (hS:SH w0 K0 M w K (rowI (.slice a n c) cs U t.size::L)):
  ∃a' n' c' cs' w',RunTo P E w (.call {callee:=.builtin .append,args:=#[x,y],argTypes:=#[T,T]}) (.ok (.value (.slice a' n' c')) w')∧RowAt true t K cs' zs∧n'=zs.length∧
   SH w0 K0 M w' K (rowI (.slice a' n' c') cs' U t.size::L):=by
 have hb':0<bytes:=by simpa [Nat.blt_eq] using hb
 obtain⟨f1,f2,f3,f4⟩:=hs2
 unfold catL at hz
 split at hz
 case isFalse=>cases hz
 rename_i hbound
 cases hz
 have hsum:n+n2≤140737488355328:=by
  have:=Nat.le_mul_of_pos_right (xs.length+ys.length) hb'
  omega
 have hcl:cs.length=n*t.size:=by rw [hr.1.2 rfl,hn]
 by_cases hm:n2=0
 ·have hy0:ys=[]:=List.eq_nil_of_length_eq_zero (by omega)
  subst hy0
  have hnc:n≤c:=by
   rcases hS.rowI_cases (List.mem_cons_self ..) with ⟨_,h1,h2,_⟩ | ⟨g,cur,_,h1,_⟩
   ·omega
   ·exact h1
  exact⟨a,n,c,cs,w,fun ρ _ ty _ _ _ ha=>by simp [execOp,resolve,invoke,builtin,ha x _ hx,ha y _ hy,run_append_zero (P:=P) (w:=w) (a2:=a2) (c2:=c2) hT hU rfl hnc hm ty],by simpa using hr,by simpa using hn,hS⟩
 obtain⟨b2,o2,rfl,hel2⟩:=f4 (by omega)
 obtain⟨news,hnl,hnk,hn1,hnr⟩:=gather t K b2 ys o2 hel2
 obtain⟨g,c',w',h1,h2⟩:=rt_appendI hT hU hzs hx hy (by omega) (by rw [hnl,f1]) hnk hn1 hcl hsum (by rw [hn,f1];exact hbound) hS
 exact⟨_,_,_,_,w',h1,hr.append hnl hn1 hnr,by simp [hn,f1],h2⟩
theorem wl_appendR {α:Type}{t:Ty α}{a a2:Option Addr}{n c n2 c2:Nat}{xs ys zs:List α}{cs:List Value}(hw:Wanted ops N E gd)(hd:Nat.blt d N=true)(hT:P.underlying T=some (.slice U))(hU:TF P U t.size agg zero bytes)(hzs:zero.cells.size=t.size)
  (hb:Nat.blt 0 bytes=true)(hx:ev E x=some (.slice a n c))(hy:ev E y=some (.slice a2 n2 c2))(hr:RowAt true t K cs xs)(hn:n=xs.length)(hs2:SliceAt t K a2 n2 c2 ys)(hz:catL bytes xs ys=some zs)
  (hS:SH w0 K0 M w K (rowI (.slice a n c) cs U t.size::L))
  (h: ∀a' n' c' cs' w',RowAt true t K cs' zs→n'=zs.length→SH w0 K0 M w' K (rowI (.slice a' n' c') cs' U t.size::L)→WL P ops Q N rest ((d,.slice a' n' c')::E) w'):
  WL P ops Q N (⟨some d,.call {callee:=.builtin .append,args:=#[x,y],argTypes:=#[T,T]},ty,pos,af,gd⟩::rest) E w:=by
 obtain⟨a',n',c',cs',w',h1,h2,h3,h4⟩:=rt_appendR hT hU hzs hb hx hy hr hn hs2 hz hS
 exact wl_eff hw hd h1 (h a' n' c' cs' w' h2 h3 h4)
theorem wl_buildSlice0R {α:Type}(t:Ty α)(hw:Wanted ops N E gd)(hd:Nat.blt d N=true)(hT:P.underlying T=some (.slice U))(hU:TF P U t.size agg zero bytes)(hS:SH w0 K0 M w K L)
  (h: ∀a' w',SH w0 K0 M w' K (rowI (.slice a' 0 0) [] U t.size::L)→WL P ops Q N rest ((d,.slice a' 0 0)::E) w'):
  WL P ops Q N (⟨some d,.buildSlice T 0 #[],ty,pos,af,gd⟩::rest) E w:=by
 have h0:=hS.newRowI (cs:=[]) (rest:=[]) (n:=0) (cap:=0) (sz:=t.size) U (by simp) (by simp) (Nat.le_refl _) (Nat.zero_le _)
 refine wl_eff (v:=.slice (some ⟨w.heap.size,0,none⟩) 0 0) (w':=w.alloc (.cells ([]++([]:List Value)).toArray U)) hw hd (fun ρ _ _ _ _ _ _=>?_) (h _ _ h0)
 simp only [execOp,Instr.buildSlice,Sem.run_bind,run_underlying hT,run_sizeOf hU,Result.andThen_ok]
 have h1: ¬(0*t.size>2 ^ 24):=by omega
 have h2:0*t.size=0:=by omega
 rw [if_neg h1,if_pos h2]
 have h3:(Array.range 0).map (fun x=>(#[]:Array Value)[x%(#[]:Array Value).size]!)=#[]:=by simp [Array.range]
 have h4:((#[]:Array (Nat×Operand)).map fun (i,x)=>(i,ρ x)).toList=[]:=by simp
 simp only [h2,Sem.run_bind,Sem.run_pure,Result.andThen_ok,newRow,h3,h4,Instr.fill]
 rfl
theorem rv_indexI {α:Type}{t:Ty α}{a:Option Addr}{g m c:Nat}{xs:List α}{k:IntKind}{i:Int}{e:α}(hT:P.underlying T=some (.slice U))(hU:TF P U t.size agg zero bytes)
  (hx:ev E x=some (.slice a m c))(hy:ev E y=some (.int k i))(ha:a=some ⟨g,0,none⟩)(hm:m=xs.length)(hz:getI xs i=some e):RV P E w (.indexAddr T x y) (.pointer (some ⟨g,i.toNat*t.size,none⟩)):=by
 subst ha;exact rv_indexRow hT hU hx hy hm hz
def HasRow (a:Option Addr)(cs:List Value)(w:World):Prop:=∀g,a=some ⟨g,0,none⟩→∀(j:Nat) v,cs[j]? =some v→w.cell? ⟨g,j,none⟩=some v
theorem SH.hasRow {a:Option Addr}{n c sz:Nat}{cs:List Value}(h:SH w0 K0 M w K L)(hm:rowI (.slice a n c) cs U sz∈L):HasRow a cs w:=fun g e j v hj=>by
 subst e;exact h.row_cell hm hj
theorem QC.hasRow {a:Option Addr}{n c sz:Nat}{cs:List Value}(hw:QC w0 K0 M K L w')(hm:rowI (.slice a n c) cs U sz∈L):HasRow a cs w':=
 let ⟨_,hS,_⟩:=hw
 hS.hasRow hm
theorem rh_loadI1 {a:Option Addr}{g o o':Nat}{cs:List Value}{v:Value}(hT:TF P T size false zero bytes)(hx:ev E x=some (.pointer (some ⟨g,o',none⟩)))(ho:o'=o)(hv:cs[o]? =some v)(ha:a=some ⟨g,0,none⟩)(hH:HasRow a cs w):RV P E w (.load T x) v:=by
 subst ho
 refine rv_load hT hx (cs:=[v]) (fun j c e=>?_) (.inr ⟨rfl,rfl⟩)
 cases j with
 | zero=>simp at e;subst e;exact hH g ha _ _ hv
 | succ j=>simp at e
theorem splice_take {cs vs:List Value}{o m:Nat}(h:o+vs.length≤m)(hm:m≤cs.length):(cs.take o++vs++cs.drop (o+vs.length)).take m=splice (cs.take m) o vs:=by
 have h1:(cs.take o).length=o:=by rw [List.length_take];omega
 have h2:(cs.take o++vs).length=o+vs.length:=by rw [List.length_append,h1]
 rw [List.take_append,h2,List.take_of_length_le (by omega)]
 unfold splice
 rw [List.take_take,show min o m=o from by omega,List.drop_take]
theorem splice_one (cs:List Value)(o:Nat)(v:Value)(h:o<cs.length):splice cs o [v]=cs.set o v:=by
 apply List.ext_getElem?
 intro k
 have h1:(cs.take o).length=o:=by rw [List.length_take];omega
 simp only [splice,List.append_assoc,List.length_singleton,List.getElem?_set]
 by_cases hk:k<o
 ·rw [List.getElem?_append_left (by omega),List.getElem?_take,if_pos hk,if_neg (by omega)]
 ·rw [List.getElem?_append_right (by omega),h1]
  by_cases hk2:k=o
  ·subst hk2;rw [if_pos rfl,Nat.sub_self];simp [h]
  ·rw [if_neg (Ne.symm hk2),List.getElem?_append_right (by simp;omega),List.getElem?_drop]
   congr 1;simp;omega
theorem wl_storeC {g n c o sz:Nat}{cs:List Value}{v:Value}(hw:Wanted ops N E gd)(hT:TF P T 1 agg zero bytes)(hx:ev E x=some (.pointer (some ⟨g,o,none⟩)))(hy:ev E y=some v)(hv:v.oneCell'=true)
  (hS:SH w0 K0 M w K (rowI (.slice (some ⟨g,0,none⟩) n c) cs U sz::L))(ho:o<cs.length)
  (h: ∀w',SH w0 K0 M w' K (rowI (.slice (some ⟨g,0,none⟩) n c) (cs.set o v) U sz::L)→WL P ops Q N rest E w'):WL P ops Q N (⟨none,.store T x y,ty,pos,af,gd⟩::rest) E w:=by
 rcases hS.rowI_cases (List.mem_cons_self ..) with ⟨h1,_⟩ | ⟨g',cur,h1,h2,h3,h4,h5,h6,h7,h8⟩
 ·cases h1
 injection h1 with h1
 injection h1 with h1 _ _
 subst h1
 have hcc:n*sz≤c*sz:=Nat.mul_le_mul_right _ h2
 have hst:=run_storeCells_obj (P:=P) g o U (0,0) [v] 0 cur w h5 (.inl rfl) (by simp;omega) (by simpa using hv)
 simp only [Nat.add_zero] at hst
 refine wl_do (w':=w.setRow g (cur.toList.take o++[v]++cur.toList.drop (o+[v].length)).toArray) hw (fun ρ _ _ _ _ _ ha=>?_) ?_
 ·simp [execOp,ha x _ hx,ha y _ hy,Instr.storeAt,Instr.sureAddr,storeVar,run_sizeOf hT,cells_one hv,hst]
 ·refine h _ (hS.setRowI ?_ h2 (by rw [List.length_set];exact h4) ?_)
  ·simp only [List.length_append,List.length_take,List.length_drop,Array.length_toList,List.length_singleton];omega
  ·subst h7
   rw [splice_take (m:=n*sz) (by simp;omega) (by rw [Array.length_toList];omega),splice_one _ _ _ ho]
theorem SH.freezeI {α:Type}{t:Ty α}{a:Option Addr}{n c:Nat}{cs:List Value}{xs:List α}(h:SH w0 K0 M w K (rowI (.slice a n c) cs U t.size::L))(hr:RowAt true t K cs xs)(hn:n=xs.length):
  ∃K',KLe K K'∧SliceAt t K' a n c xs∧SH w0 K0 M w K' (tail (.slice a n c) U t.size::L):=by
 rcases h.rowI_cases (List.mem_cons_self ..) with ⟨rfl,rfl,rfl,rfl⟩ | ⟨g,cur,rfl,h1,h2,h3,h4,h5,h6,h7⟩
 ·have:xs=[]:=List.eq_nil_of_length_eq_zero hn.symm
  subst this
  exact⟨K,.refl _,.nil t K,h.drop.nil U t.size⟩
 have hlt:=h.own
 have hle:KLe K (K.put g (fun o=>cs[o]?)):=fun b o v e'=>by
  by_cases hb:b=g
  ·rw [hb,h7] at e';cases e'
  ·rw [K.put_other _ hb];exact e'
 refine⟨_,hle,SliceAt.of_cells hn h1 h2 (fun i z hz=>?_),?_⟩
 ·obtain⟨u,hu,hk⟩:=hr.2.2 i z hz
  exact⟨u,t.mono hle hu,fun j d e=>by rw [K.put_same];exact hk j d e⟩
 ·refine h.drop.step (w':=w) rfl rfl rfl (Nat.le_refl _) (by omega) (fun b _ _=>rfl) hlt.1 hlt.2 h.apart (fun b hb=>K.put_other _ hb) (fun o v e=>hle g o v e)
   (fun o v e=>?_) rfl ⟨.inr ⟨g,_,_,rfl,h1,h2⟩,g,_,_,_,rfl,h4,h5,fun i hi=>?_⟩
  ·rw [K.put_same] at e;exact h.row_cell (List.mem_cons_self ..) e
  ·rw [K.put_same,List.getElem?_eq_none];rw [h3];exact hi
end
end Go.Fk
namespace Go.Fk
open Go
def PtrO {α:Type}(t:Ty α)(K:KMap)(v:Value):Option α→Prop
 | none=>v= .pointer none
 | some x=>PtrK t K v x
theorem PtrO.mono {α:Type}{t:Ty α}{K K':KMap}(h:KLe K K'){v:Value}{m:Option α}(p:PtrO t K v m):PtrO t K' v m:=by
 cases m with
 | none=>exact p
 | some x=>exact PtrK.mono h p
theorem PtrO.get {α:Type}{t:Ty α}{K:KMap}{v:Value}{m:Option α}{x:α}(p:PtrO t K v m)(hx:m=some x): ∃b o u,v= .pointer (some ⟨b,o,none⟩)∧t.rel K u x∧AtK K b o u.cells.toList:=by
 subst hx;exact p
section
variable {P:Program}{E:Env}{w:World}{K:KMap}{x y:Operand}{T T' U:TypeId}
theorem run_equalIn_ptr {v:Value}{α:Type}{t:Ty α}{m:Option α}(d:Nat)(hT:P.underlying T=some (.pointer U))(p:PtrO t K v m):(Op.equalIn (d+1) T v (.pointer none)).run P w= .ok m.isNone w:=by
 cases m with
 | none=>
  have hv:v= .pointer none:=p
  subst hv
  simp [Op.equalIn,run_underlying hT]
 | some z=>
  obtain⟨b,o,u,rfl,_⟩:=p
  simp [Op.equalIn,run_underlying hT]
theorem rv_pnil {v:Value}{α:Type}{t:Ty α}{m:Option α}(hT:P.underlying T=some (.pointer U))(hx:ev E x=some v)(hy:ev E y=some (.pointer none))(p:PtrO t K v m):RV P E w (.binOp .eql T x y T') (.bool m.isNone):=
 fun ρ _ _ _ _ _ ha=>by
  have h:=run_equalIn_ptr (P:=P) (w:=w) 9999 hT p
  simp only [execOp,ha x _ hx,ha y _ hy]
  have hv: ∃q,v= .pointer q:=by
   cases m with
   | none=>exact⟨none,p⟩
   | some z=>obtain⟨b,o,u,e,_⟩:=p;exact⟨_,e⟩
  obtain⟨q,rfl⟩:=hv
  simp only [eqGuard,binOp,Op.equal,Op.maxDepth]
  simp [h]
theorem rv_pnotnil {v:Value}{α:Type}{t:Ty α}{m:Option α}(hT:P.underlying T=some (.pointer U))(hx:ev E x=some v)(hy:ev E y=some (.pointer none))(p:PtrO t K v m):RV P E w (.binOp .neq T x y T') (.bool m.isSome):=
 fun ρ _ _ _ _ _ ha=>by
  have h:=run_equalIn_ptr (P:=P) (w:=w) 9999 hT p
  simp only [execOp,ha x _ hx,ha y _ hy]
  have hv: ∃q,v= .pointer q:=by
   cases m with
   | none=>exact⟨none,p⟩
   | some z=>obtain⟨b,o,u,e,_⟩:=p;exact⟨_,e⟩
  obtain⟨q,rfl⟩:=hv
  simp only [eqGuard,binOp,Op.equal,Op.maxDepth]
  simp [h]
def FG (P:Program)(T:TypeId)(f:Nat)(ft:TypeId)(off:Nat):Prop:=
 (match P.underlying T with | some (.struct fs)=>(fs[f]?).map (fun fd=>(fd.type,fd.offset)) | _=>none)=some (ft,off)
theorem rv_field {f off size bytes:Nat}{ft:TypeId}{cs:Array Value}{v zero:Value}{agg:Bool}(hF:FG P T f ft off)(hT:TF P ft size agg zero bytes)(hx:ev E x=some (.agg cs))
  (hv:(agg=false∧cs[off]? =some v)∨(agg=true∧v= .agg (cs.extract off (off+size)))):RV P E w (.field T x f) v:=fun ρ _ _ _ _ _ ha=>by
 unfold FG at hF
 split at hF
 ·rename_i fs hu
  obtain⟨fd,hfd,e⟩:=Option.map_eq_some_iff.1 hF
  simp only [Prod.mk.injEq] at e
  obtain⟨rfl,rfl⟩:=e
  have hp:(part fd.type cs fd.offset).run P w= .ok v w:=by
   rcases hv with ⟨rfl,hv⟩ | ⟨rfl,rfl⟩
   ·simp [part,run_isAgg hT,hv]
   ·simp [part,run_isAgg hT,run_sizeOf hT]
  have h1:(Instr.field T (.agg cs) f).run P w= .ok v w:=by
   simp only [Instr.field,Sem.run_bind,run_underlying hu,Result.andThen_ok,hfd,asAgg,Sem.run_pure,hp]
  simp only [execOp,ha x _ hx,Sem.run_bind,h1,Result.andThen_ok]
  rfl
 ·cases hF
section
variable {ops:Array Oper}{Q:Exit→Act→World→Prop}{N size bytes:Nat}{zero:Value}{agg:Bool}{z:Operand}{d:Tmp}{ty:TypeId}{pos:String}{af:Array Edge}{gd:Option (Nat×Bool)}{H F:World→Prop}{st:Nat}{I:List (Nat×Nat)}
end
end
end Go.Fk
