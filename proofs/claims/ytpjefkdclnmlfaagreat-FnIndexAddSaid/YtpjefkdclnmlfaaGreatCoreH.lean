/-
  The same laws as steps of a walk, what they bring handed on: of no program.
-/
import Derived.Test.YtpjefkdclnmlfaaGreatCoreG
namespace Go.Fk
open Go
set_option linter.unusedSectionVars false
variable [dr:Dr]
section
variable {P:Program}{ops:Array Oper}{Q:Exit→Act→World→Prop}{N:Nat}{E:Env}{w w0:World}{K K0:KMap}{M:List Nat}{L:List Item}{C:World→Prop}
variable {x y z:Operand}{T T' U:TypeId}{size bytes:Nat}{zero:Value}{agg:Bool}{rest:List Oper}{d:Tmp}{ty:TypeId}{pos:String}{af:Array Edge}{gd:Option (Nat×Bool)}{fr:Nat×Nat}
theorem SliceAt.nil {α:Type}(t:Ty α)(K:KMap):SliceAt t K none 0 0 ([]:List α):=⟨rfl,Nat.le_refl _,Nat.zero_le _,fun h=>absurd h (by omega)⟩
theorem SH.mem_obj {g:Nat}{cs:List Value}{V:TypeId}(h:SH w0 K0 M w K L)(hm:obj g cs V fr∈L)(o:Nat):w.cell? ⟨g,o,none⟩=cs[o]? :=by
 obtain⟨⟨e,_⟩,_⟩:=(h.items _ hm).2 g rfl
 simp [World.cell?,e]
theorem rv_loadm1 {g o:Nat}{cs:List Value}{V:TypeId}{v:Value}(hT:TF P T size false zero bytes)(hx:ev E x=some (.pointer (some ⟨g,o,none⟩)))(hm:obj g cs V fr∈L)(hS:SH w0 K0 M w K L)(hv:cs[o]? =some v):RV P E w (.load T x) v:=
 rv_load hT hx (cs:=[v]) (fun j c e=>by
  cases j with
  | zero=>simp at e;subst e;rw [Nat.add_zero,hS.mem_obj hm];exact hv
  | succ j=>simp at e) (.inr ⟨rfl,rfl⟩)
theorem rv_loadmS {g o:Nat}{cs ds:List Value}{V:TypeId}(hT:TF P T size true zero bytes)(hx:ev E x=some (.pointer (some ⟨g,o,none⟩)))(hm:obj g cs V fr∈L)(hS:SH w0 K0 M w K L)(hv:(cs.drop o).take size=ds)(hl:ds.length=size):RV P E w (.load T x) (.agg ds.toArray):=
 rv_load hT hx (fun j c e=>by
  rw [hS.mem_obj hm]
  subst hv
  rw [List.getElem?_take] at e
  split at e
  ·rw [List.getElem?_drop] at e;exact e
  ·cases e) (.inl ⟨rfl,hl,rfl⟩)
theorem rq_load1 {b o:Nat}{v:Value}(hT:TF P T size false zero bytes)(hx:ev E x=some (.pointer (some ⟨b,o,none⟩)))(hk:K b o=some v)(w':World)(hw:QC w0 K0 M K L w'):RV P E w' (.load T x) v:=
 let ⟨_,hS,hl⟩:=hw
 rv_load1 hT hx hS (hl _ _ _ hk)
theorem rq_loadS {b o:Nat}{cs:List Value}(hT:TF P T size true zero bytes)(hx:ev E x=some (.pointer (some ⟨b,o,none⟩)))(hk:AtK K b o cs)(hl:cs.length=size)(w':World)(hw:QC w0 K0 M K L w'):RV P E w' (.load T x) (.agg cs.toArray):=
 let ⟨_,hS,hle⟩:=hw
 rv_loadS hT hx hS (hk.mono hle) hl
theorem rq_loadm1 {g o:Nat}{cs:List Value}{V:TypeId}{v:Value}(hT:TF P T size false zero bytes)(hx:ev E x=some (.pointer (some ⟨g,o,none⟩)))(hm:obj g cs V fr∈L)(hv:cs[o]? =some v)(w':World)(hw:QC w0 K0 M K L w'):RV P E w' (.load T x) v:=
 let ⟨_,hS,_⟩:=hw
 rv_loadm1 hT hx hm hS hv
theorem rq_loadmS {g o:Nat}{cs ds:List Value}{V:TypeId}(hT:TF P T size true zero bytes)(hx:ev E x=some (.pointer (some ⟨g,o,none⟩)))(hm:obj g cs V fr∈L)(hv:(cs.drop o).take size=ds)(hl:ds.length=size)(w':World)(hw:QC w0 K0 M K L w'):RV P E w' (.load T x) (.agg ds.toArray):=
 let ⟨_,hS,_⟩:=hw
 rv_loadmS hT hx hm hS hv hl
theorem wl_indexAddr {α:Type}{t:Ty α}{a:Option Addr}{n c:Nat}{xs:List α}{k:IntKind}{i:Int}{e:α}(hw:Wanted ops N E gd)(hd:Nat.blt d N=true)(hT:P.underlying T=some (.slice U))(hU:TF P U t.size agg zero bytes)
  (hx:ev E x=some (.slice a n c))(hy:ev E y=some (.int k i))(hs:SliceAt t K a n c xs)(hz:getI xs i=some e)
  (h: ∀b o u,t.rel K u e→AtK K b o u.cells.toList→WL P ops Q N rest ((d,.pointer (some ⟨b,o,none⟩))::E) w):WL P ops Q N (⟨some d,.indexAddr T x y,ty,pos,af,gd⟩::rest) E w:=by
 obtain⟨b,o,u,h1,h2,h3⟩:=rv_indexAddr hT hU hx hy hs hz
 exact wl_val hw hd (h1 w) (h b o u h2 h3)
theorem wq_indexAddr {α:Type}{t:Ty α}{a:Option Addr}{n c:Nat}{xs:List α}{k:IntKind}{i:Int}{e:α}(hw:Wanted ops N E gd)(hd:Nat.blt d N=true)(hT:P.underlying T=some (.slice U))(hU:TF P U t.size agg zero bytes)
  (hx:ev E x=some (.slice a n c))(hy:ev E y=some (.int k i))(hs:SliceAt t K a n c xs)(hz:getI xs i=some e)
  (h: ∀b o u,t.rel K u e→AtK K b o u.cells.toList→WQ P ops C Q N rest ((d,.pointer (some ⟨b,o,none⟩))::E)):WQ P ops C Q N (⟨some d,.indexAddr T x y,ty,pos,af,gd⟩::rest) E:=by
 obtain⟨b,o,u,h1,h2,h3⟩:=rv_indexAddr hT hU hx hy hs hz
 exact wq_val hw hd (fun w' _=>h1 w') (h b o u h2 h3)
theorem wl_sl_l {α:Type}{t:Ty α}{a:Option Addr}{n c:Nat}{xs ys:List α}{k:IntKind}{l:Int}(hw:Wanted ops N E gd)(hd:Nat.blt d N=true)(hT:P.underlying T=some (.slice U))(hU:TF P U t.size agg zero bytes)
  (hx:ev E x=some (.slice a n c))(hy:ev E y=some (.int k l))(hs:SliceAt t K a n c xs)(hz:subL xs l xs.length=some ys)
  (h: ∀a' n' c',SliceAt t K a' n' c' ys→WL P ops Q N rest ((d,.slice a' n' c')::E) w):WL P ops Q N (⟨some d,.slice T x (some y) none none,ty,pos,af,gd⟩::rest) E w:=by
 obtain⟨a',n',c',h1,h2⟩:=rv_sl_l hT hU hx hy hs hz
 exact wl_val hw hd (h1 w) (h a' n' c' h2)
theorem wl_sl_h {α:Type}{t:Ty α}{a:Option Addr}{n c:Nat}{xs ys:List α}{k:IntKind}{l:Int}(hw:Wanted ops N E gd)(hd:Nat.blt d N=true)(hT:P.underlying T=some (.slice U))(hU:TF P U t.size agg zero bytes)
  (hx:ev E x=some (.slice a n c))(hy:ev E y=some (.int k l))(hs:SliceAt t K a n c xs)(hz:subL xs 0 l=some ys)
  (h: ∀a' n' c',SliceAt t K a' n' c' ys→WL P ops Q N rest ((d,.slice a' n' c')::E) w):WL P ops Q N (⟨some d,.slice T x none (some y) none,ty,pos,af,gd⟩::rest) E w:=by
 obtain⟨a',n',c',h1,h2⟩:=rv_sl_h hT hU hx hy hs hz
 exact wl_val hw hd (h1 w) (h a' n' c' h2)
theorem wl_sl_lh {α:Type}{t:Ty α}{a:Option Addr}{n c:Nat}{xs ys:List α}{k k':IntKind}{l l':Int}(hw:Wanted ops N E gd)(hd:Nat.blt d N=true)(hT:P.underlying T=some (.slice U))(hU:TF P U t.size agg zero bytes)
  (hx:ev E x=some (.slice a n c))(hy:ev E y=some (.int k l))(hy':ev E z=some (.int k' l'))(hs:SliceAt t K a n c xs)(hz:subL xs l l'=some ys)
  (h: ∀a' n' c',SliceAt t K a' n' c' ys→WL P ops Q N rest ((d,.slice a' n' c')::E) w):WL P ops Q N (⟨some d,.slice T x (some y) (some z) none,ty,pos,af,gd⟩::rest) E w:=by
 obtain⟨a',n',c',h1,h2⟩:=rv_sl_lh hT hU hx hy hy' hs hz
 exact wl_val hw hd (h1 w) (h a' n' c' h2)
theorem wl_alloc (hw:Wanted ops N E gd)(hd:Nat.blt d N=true)(hT:TF P T size agg zero bytes)(hS:SH w0 K0 M w K L)
  (h: ∀g w',SH w0 K0 M w' K (obj g zero.cells.toList T::L)→WL P ops Q N rest ((d,.pointer (some ⟨g,0,none⟩))::E) w'):WL P ops Q N (⟨some d,.alloc T,ty,pos,af,gd⟩::rest) E w:=
 wl_eff hw hd (rt_alloc hT) (h _ _ (hS.newObj _ T))
theorem wl_box {v:Value}(hw:Wanted ops N E gd)(hd:Nat.blt d N=true)(hx:ev E x=some v)(hS:SH w0 K0 M w K L)
  (h: ∀g w',SH w0 K0 M w' K (obj g v.cells.toList T::L)→WL P ops Q N rest ((d,.pointer (some ⟨g,0,none⟩))::E) w'):WL P ops Q N (⟨some d,.box T x,ty,pos,af,gd⟩::rest) E w:=
 wl_eff hw hd (rt_box hx) (h _ _ (hS.newObj _ T))
theorem wl_store {g o:Nat}{cs cs':List Value}{v:Value}(hw:Wanted ops N E gd)(hT:TF P T size agg zero bytes)(hx:ev E x=some (.pointer (some ⟨g,o,none⟩)))(hy:ev E y=some v)(hsz:v.cells.size=size)(hones: ∀c∈v.cells.toList,c.oneCell'=true)
  (hS:SH w0 K0 M w K (obj g cs U fr::L))(hfit:Nat.ble (o+size) cs.length=true)(hcs:splice cs o v.cells.toList=cs')
  (h: ∀w',SH w0 K0 M w' K (obj g cs' U fr::L)→WL P ops Q N rest E w'):WL P ops Q N (⟨none,.store T x y,ty,pos,af,gd⟩::rest) E w:=by
 obtain⟨h1,h2⟩:=rt_store hT hx hy hsz hones hS hfit
 subst hcs
 exact wl_do hw h1 (h _ h2)
theorem wl_append {α:Type}{t:Ty α}{a a2:Option Addr}{n c n2 c2:Nat}{xs ys zs:List α}(hw:Wanted ops N E gd)(hd:Nat.blt d N=true)(hT:P.underlying T=some (.slice U))(hU:TF P U t.size agg zero bytes)(hsz:Nat.blt 0 t.size=true)(hzs:zero.cells.size=t.size)
  (hb:Nat.blt 0 bytes=true)(hx:ev E x=some (.slice a n c))(hy:ev E y=some (.slice a2 n2 c2))(hs:SliceAt t K a n c xs)(hs2:SliceAt t K a2 n2 c2 ys)(hz:catL bytes xs ys=some zs)
  (hS:SH w0 K0 M w K (tail (.slice a n c) U t.size::L))
  (h: ∀a' n' c' w' K',KLe K K'→SliceAt t K' a' n' c' zs→SH w0 K0 M w' K' (tail (.slice a' n' c') U t.size::L)→WL P ops Q N rest ((d,.slice a' n' c')::E) w'):
  WL P ops Q N (⟨some d,.call {callee:=.builtin .append,args:=#[x,y],argTypes:=#[T,T]},ty,pos,af,gd⟩::rest) E w:=by
 obtain⟨a',n',c',w',K',h1,h2,h3,h4⟩:=rt_append hT hU hsz hzs hb hx hy hs hs2 hz hS
 exact wl_eff hw hd h1 (h a' n' c' w' K' h2 h3 h4)
theorem wl_buildSlice {α:Type}{t:Ty α}{n:Nat}{parts:List (Nat×Operand)}{pv:List (Nat×Value)}{cs:List Value}{xs:List α}(hw:Wanted ops N E gd)(hd:Nat.blt d N=true)(hT:P.underlying T=some (.slice U))(hU:TF P U t.size agg zero bytes)
  (hev:evP E parts=some pv)(hn:Nat.blt 0 (n*t.size)=true)(hsm:Nat.ble (n*t.size) 16777216=true)
  (hf:Instr.fill (fun i=>some (i*t.size,t.size)) ((Array.range (n*t.size)).map fun i=>zero.cells[i%zero.cells.size]!) pv=some cs.toArray)
  (hl:xs.length=n)(hcl:cs.length=n*t.size)(hcs: ∀(i:Nat) z,xs[i]? =some z→∃u,t.rel K u z∧∀j d,u.cells.toList[j]? =some d→cs[i*t.size+j]? =some d)(hS:SH w0 K0 M w K L)
  (h: ∀a' w' K',KLe K K'→SliceAt t K' a' n n xs→SH w0 K0 M w' K' (tail (.slice a' n n) U t.size::L)→WL P ops Q N rest ((d,.slice a' n n)::E) w'):
  WL P ops Q N (⟨some d,.buildSlice T n parts.toArray,ty,pos,af,gd⟩::rest) E w:=by
 obtain⟨a',w',K',h1,h2,h3,h4⟩:=rt_buildSlice (P:=P) (E:=E) hT hU hev hn hsm hf hl hcl hcs hS
 exact wl_eff hw hd h1 (h a' w' K' h2 h3 h4)
theorem wl_buildSlice0 {α:Type}(t:Ty α)(hw:Wanted ops N E gd)(hd:Nat.blt d N=true)(hT:P.underlying T=some (.slice U))(hU:TF P U t.size agg zero bytes)(hS:SH w0 K0 M w K L)
  (h: ∀a' w' K',KLe K K'→SliceAt t K' a' 0 0 ([]:List α)→SH w0 K0 M w' K' (tail (.slice a' 0 0) U t.size::L)→WL P ops Q N rest ((d,.slice a' 0 0)::E) w'):
  WL P ops Q N (⟨some d,.buildSlice T 0 #[],ty,pos,af,gd⟩::rest) E w:=by
 obtain⟨a',w',K',h1,h2,h3,h4⟩:=rt_buildSlice0 (P:=P) (E:=E) t hT hU hS
 exact wl_eff hw hd h1 (h a' w' K' h2 h3 h4)
theorem lit_cons {α:Type}{t:Ty α}{u:Value}{z:α}{xs:List α}{cs:List Value}(hu:t.rel K u z)
  (h: ∀(i:Nat) z',xs[i]? =some z'→∃u',t.rel K u' z'∧∀j d,u'.cells.toList[j]? =some d→cs[i*t.size+j]? =some d):
  ∀(i:Nat) z',(z::xs)[i]? =some z'→∃u',t.rel K u' z'∧∀j d,u'.cells.toList[j]? =some d→(u.cells.toList++cs)[i*t.size+j]? =some d:=by
 have hl:u.cells.toList.length=t.size:=by simpa using t.size_eq hu
 intro i z' hz
 cases i with
 | zero=>
  simp at hz;subst hz
  refine⟨u,hu,fun j d e=>?_⟩
  have:=(List.getElem?_eq_some_iff.1 e).1
  rw [Nat.zero_mul,Nat.zero_add,List.getElem?_append_left this];exact e
 | succ i=>
  simp at hz
  obtain⟨u',hu',hk⟩:=h i z' hz
  refine⟨u',hu',fun j d e=>?_⟩
  rw [List.getElem?_append_right (by rw [hl,Nat.add_mul,Nat.one_mul];omega),hl,show (i+1)*t.size+j-t.size=i*t.size+j from by rw [Nat.add_mul,Nat.one_mul];omega]
  exact hk j d e
theorem lit_nil {α:Type}{t:Ty α}: ∀(i:Nat) z',([]:List α)[i]? =some z'→∃u',t.rel K u' z'∧∀j d,u'.cells.toList[j]? =some d→([]:List Value)[i*t.size+j]? =some d:=by
 intro i z' hz;simp at hz
theorem wc_cutg {c:Code}(Mid:Env→World→Prop)(h:WC P c (Exit.then (InSt N Mid) Q) N E w)
  (hk: ∀E' w',Mid E' w'→QE Q .normal N E' w'):WC P c Q N E w:=
 wc_mono h fun e a w' q=>by
  cases e with
  | normal=>
   obtain⟨hd,E',hf,hm⟩:=q
   obtain⟨t,ds⟩:=a
   simp only at hd hf
   subst hd
   exact hk E' w' hm t hf
  | exit id=>exact q
  | goto l=>exact q
  | ret=>exact q
  | panic c=>exact q
  | outgrown=>exact q
def forE {σ:Type}(f:Nat→σ→Option σ):Nat→Nat→σ→Option σ
 | 0,_,s=>some s
 | k+1,i,s=>(f i s).bind fun s'=>forE f k (i+1) s'
theorem forE_from {σ:Type}(f:Nat→σ→Option σ): ∀(k i:Nat) (s r:σ),forE f k i s=some r→forFrom (τ:=Empty) (fun i s=>(f i s).map .inl) k i s=some (.inl r)
 | 0,i,s,r,h=>by simp [forE] at h;simp [forFrom,h]
 | k+1,i,s,r,h=>by
  simp only [forE] at h
  obtain⟨s',h1,h2⟩:=Option.bind_eq_some_iff.1 h
  simp only [forFrom,h1,Option.map_some,Option.bind_some,Sum.elim_inl]
  exact forE_from f k (i+1) s' r h2
theorem wc_forE {σ:Type}{f:Nat→σ→Option σ}{n:Nat}{r:σ}{s0:σ}{body:Code}(Inv:Nat→σ→Env→World→Prop)(hrun:forE f n 0 s0=some r)(h0:Inv 0 s0 E w)
  (hround: ∀i s E w s',i<n→f i s=some s'→Inv i s E w→WC P body (Exit.then (InSt N fun E' w'=>Inv (i+1) s' E' w') Q) N E w)
  (hend: ∀s E w,r=s→Inv n s E w→WC P body (Exit.then (fun _ _=>False) Q) N E w):WC P (.loop body) Q N E w:=by
 refine wc_for Inv (forE_from f n 0 s0 r hrun) h0 (fun i s E w r' hi hf _ hI=>?_) (fun s E w hr hI=>hend s E w (by injection hr) hI)
 obtain⟨s',h1,rfl⟩:=Option.map_eq_some_iff.1 hf
 refine wc_mono (hround i s E w s' hi h1 hI) fun e a w' q=>?_
 cases e with
 | normal=>obtain⟨hd,E',hf',hI'⟩:=q;exact⟨hd,E',hf',s',rfl,hI'⟩
 | exit id=>exact q
 | goto l=>exact q
 | ret=>exact q
 | panic c=>exact q
 | outgrown=>exact q
end
end Go.Fk
