/-
  Rows that the call makes and writes by index; 32-bit numbers; '==' on structs. Of no program.
-/
import Derived.Test.YtpjefkdclnmlfaaGreatCoreJ
import Derived.Laws.StructEq
import Derived.Laws.IdiomStrings
namespace Go.Fk
open Go
set_option linter.unusedSectionVars false
variable [dr:Dr]
section
variable {P:Program}{ops:Array Oper}{Q:Exit→Act→World→Prop}{N:Nat}{E:Env}{w w0:World}{K K0:KMap}{M:List Nat}{L:List Item}{C:World→Prop}
variable {x y z:Operand}{T T' U:TypeId}{size bytes:Nat}{zero:Value}{agg:Bool}{rest:List Oper}{d:Tmp}{ty:TypeId}{pos:String}{af:Array Edge}{gd:Option (Nat×Bool)}{fr:Nat×Nat}
def RowAt {α:Type}(ex:Bool)(t:Ty α)(K:KMap)(cs:List Value)(xs:List α):Prop:=
 (xs.length*t.size≤cs.length∧(ex=true→cs.length=xs.length*t.size))∧(∀c∈cs,c.oneCell'=true)∧∀(i:Nat) x,xs[i]? =some x→∃u,t.rel K u x∧∀j d,u.cells.toList[j]? =some d→cs[i*t.size+j]? =some d
theorem RowAt.mono {ex:Bool}{α:Type}{t:Ty α}{K':KMap}(h:KLe K K'){cs:List Value}{xs:List α}(p:RowAt ex t K cs xs):RowAt ex t K' cs xs:=
 ⟨p.1,p.2.1,fun i x hx=>let ⟨u,hu,hk⟩:=p.2.2 i x hx;⟨u,t.mono h hu,hk⟩⟩
theorem RowAt.set {ex:Bool}{α:Type}{t:Ty α}{cs:List Value}{xs:List α}{i:Nat}{u:Value}{e:α}(p:RowAt ex t K cs xs)(hi:i<xs.length)(hu:t.rel K u e):
  RowAt ex t K (splice cs (i*t.size) u.cells.toList) (xs.set i e):=by
 obtain⟨⟨h1,h1x⟩,h2,h3⟩:=p
 have hl:u.cells.toList.length=t.size:=by simpa using t.size_eq hu
 have hle:(i+1)*t.size≤xs.length*t.size:=Nat.mul_le_mul_right _ hi
 rw [Nat.add_mul,Nat.one_mul] at hle
 have htk:(cs.take (i*t.size)).length=i*t.size:=by rw [List.length_take];omega
 have hsl:(splice cs (i*t.size) u.cells.toList).length=cs.length:=by simp only [splice,List.length_append,List.length_drop,htk,hl];omega
 refine⟨⟨by rw [hsl,List.length_set];exact h1,fun e=>by rw [hsl,List.length_set];exact h1x e⟩,fun c hc=>?_,fun k z hz=>?_⟩
 ·simp only [splice,List.mem_append] at hc
  rcases hc with (hc | hc) | hc
  ·exact h2 c (List.mem_of_mem_take hc)
  ·exact t.ones hu c hc
  ·exact h2 c (List.mem_of_mem_drop hc)
 ·rw [List.getElem?_set] at hz
  split at hz
  ·rename_i hik
   subst hik
   cases hz
   refine⟨u,hu,fun j d e=>?_⟩
   have hj:=(List.getElem?_eq_some_iff.1 e).1
   simp only [splice,List.append_assoc]
   rw [List.getElem?_append_right (by rw [htk];omega),htk,List.getElem?_append_left (by omega)]
   rw [←e];congr 1;omega
  ·rename_i hik
   obtain⟨u',hu',hk⟩:=h3 k z hz
   refine⟨u',hu',fun j d e=>?_⟩
   have hj:=(List.getElem?_eq_some_iff.1 e).1
   have hl':u'.cells.toList.length=t.size:=by simpa using t.size_eq hu'
   have h5:=hk j d e
   simp only [splice,List.append_assoc]
   rcases Nat.lt_or_ge k i with hlt | hge
   ·have:(k+1)*t.size≤i*t.size:=Nat.mul_le_mul_right _ hlt
    rw [Nat.add_mul,Nat.one_mul] at this
    rw [List.getElem?_append_left (by rw [htk];omega),List.getElem?_take,if_pos (by omega)];exact h5
   ·have:(i+1)*t.size≤k*t.size:=Nat.mul_le_mul_right _ (by omega)
    rw [Nat.add_mul,Nat.one_mul] at this
    rw [List.getElem?_append_right (by rw [htk];omega),htk,List.getElem?_append_right (by omega),hl,List.getElem?_drop,←h5]
    congr 1;omega
def makeL {α:Type}(bytes:Nat)(n:Int)(e:α):Option (List α):=if 0≤n∧n*bytes≤140737488355328 then some (List.replicate n.toNat e) else none
theorem wl_make {α:Type}{t:Ty α}{n:Int}{e:α}{xs:List α}(hw:Wanted ops N E gd)(hd:Nat.blt d N=true)(hT:P.underlying T=some (.slice U))(hU:TF P U t.size agg zero bytes)(hb:Nat.blt 0 bytes=true)
  (hx:ev E x=some (.int .i64 n))(hy:ev E y=some (.int .i64 n))(hn:makeL bytes n e=some xs)(hz:t.rel K zero e)(hS:SH w0 K0 M w K L)
  (h: ∀g cs w',xs.length≤maxLen→RowAt true t K cs xs→SH w0 K0 M w' K (obj g cs U::L)→WL P ops Q N rest ((d,.slice (some ⟨g,0,none⟩) xs.length xs.length)::E) w'):
  WL P ops Q N (⟨some d,.makeSlice T x y,ty,pos,af,gd⟩::rest) E w:=by
 unfold makeL at hn
 split at hn
 case isFalse=>cases hn
 rename_i hbd
 cases hn
 obtain⟨i0,hi,hiz,his,hib⟩:=hU.info_
 have hb':0<bytes:=by simpa [Nat.blt_eq] using hb
 have hmul:n.toNat*bytes≤140737488355328:=by
  have:((n.toNat*bytes:Nat):Int)=n*bytes:=by rw [Int.natCast_mul];congr 1;omega
  omega
 have hle:n.toNat≤140737488355328:=Nat.le_trans (Nat.le_mul_of_pos_right _ hb') hmul
 have hr:=run_make (P:=P) w T U i0 zero hT hi hiz .i64 .i64 n n hbd.1 (Int.le_refl _) (by rw [hib,Int.mul_comm];omega) (by omega)
 have hzs:zero.cells.size=t.size:=t.size_eq hz
 have hlen:(madeCells zero.cells (n.toNat*i0.size)).toList.length=n.toNat*t.size:=by rw [Array.length_toList,size_madeCells,his]
 refine wl_eff (v:=.slice (some ⟨w.heap.size,0,none⟩) n.toNat n.toNat) (w':=w.alloc (.cells (madeCells zero.cells (n.toNat*i0.size)) U)) hw hd (fun ρ _ _ _ _ _ ha=>?_) ?_
 ·simp only [execOp,ha x _ hx,ha y _ hy,Sem.run_bind,hr,Result.andThen_ok]
  rfl
 ·have hS':=hS.newObj (madeCells zero.cells (n.toNat*i0.size)).toList U
  have hrow:RowAt true t K (madeCells zero.cells (n.toNat*i0.size)).toList (List.replicate n.toNat e):=by
   have hat: ∀k,k<n.toNat*t.size→(madeCells zero.cells (n.toNat*i0.size)).toList[k]? =some (zero.cells[k%zero.cells.size]!):=fun k hk=>by
    have hk':k<n.toNat*i0.size:=by rw [his];exact hk
    simp [madeCells,hk']
   refine⟨⟨by rw [hlen,List.length_replicate];exact Nat.le_refl _,fun _=>by rw [hlen,List.length_replicate]⟩,fun c hc=>?_,fun k z hz'=>⟨zero,?_,fun j dd e'=>?_⟩⟩
   ·obtain⟨k,hk,e'⟩:=List.getElem_of_mem hc
    have h1:=hat k (by rw [←hlen];exact hk)
    rw [List.getElem?_eq_getElem hk,e'] at h1
    injection h1 with h1
    subst h1
    by_cases hz0:0<zero.cells.size
    ·have hm:k%zero.cells.size<zero.cells.size:=Nat.mod_lt _ hz0
     refine t.ones hz _ ?_
     rw [getElem!_pos zero.cells _ hm]
     exact Array.getElem_mem_toList hm
    ·exfalso
     have h0:t.size=0:=by omega
     rw [hlen,h0] at hk
     omega
   ·have:=(List.getElem?_eq_some_iff.1 hz').2
    simp at this
    subst this;exact hz
   ·have hk:=(List.getElem?_eq_some_iff.1 hz').1
    rw [List.length_replicate] at hk
    have hj:=(List.getElem?_eq_some_iff.1 e').1
    rw [Array.length_toList,hzs] at hj
    have hle2:(k+1)*t.size≤n.toNat*t.size:=Nat.mul_le_mul_right _ hk
    rw [Nat.add_mul,Nat.one_mul] at hle2
    rw [hat _ (by omega),hzs,Nat.add_comm,Nat.add_mul_mod_self_right,Nat.mod_eq_of_lt hj,←e',getElem!_pos zero.cells j (by omega)]
    rw [Array.getElem?_toList,Array.getElem?_eq_getElem (by omega)]
  have:=h w.heap.size _ _ (by rw [List.length_replicate];exact Nat.le_trans hle (by decide)) hrow (by simpa using hS')
  simpa using this
theorem row_max {m n:Nat}(h:m=n)(hm:m≤maxLen):n≤maxLen:=h▸hm
theorem rv_indexRow {α:Type}{t:Ty α}{g m c:Nat}{xs:List α}{k:IntKind}{i:Int}{e:α}(hT:P.underlying T=some (.slice U))(hU:TF P U t.size agg zero bytes)
  (hx:ev E x=some (.slice (some ⟨g,0,none⟩) m c))(hy:ev E y=some (.int k i))(hm:m=xs.length)(hz:getI xs i=some e):RV P E w (.indexAddr T x y) (.pointer (some ⟨g,i.toNat*t.size,none⟩)):=fun ρ _ _ _ _ _ ha=>by
 obtain⟨g0,g1,g2⟩:=getI_some hz
 subst hm
 have hlt:i<(xs.length:Int):=by omega
 simp [execOp,ha x _ hx,ha y _ hy,Instr.indexAt,asIntOf,run_underlying hT,g0,hlt,run_sizeOf hU,add_at]
theorem rv_lenRow {α:Type}{xs:List α}{a:Option Addr}{m c:Nat}(hT:P.underlying T=some (.slice U))(hx:ev E x=some (.slice a m c))(hm:m=xs.length):
  RV P E w (.call {callee:=.builtin .len,args:=#[x],argTypes:=#[T]}) (.int .i64 xs.length):=fun ρ _ _ _ _ _ ha=>by
 subst hm
 simp [execOp,resolve,invoke,builtin,ha x _ hx,Builtin.len_,run_underlying hT,goInt]
theorem wl_storeRow {ex:Bool}{α:Type}{t:Ty α}{g:Nat}{i:Int}{cs:List Value}{xs:List α}{v:Value}{e e':α}(hw:Wanted ops N E gd)(hT:TF P T t.size agg zero bytes)(hx:ev E x=some (.pointer (some ⟨g,i.toNat*t.size,none⟩)))(hy:ev E y=some v)(hv:t.rel K v e)
  (hS:SH w0 K0 M w K (obj g cs U fr::L))(hr:RowAt ex t K cs xs)(hz:getI xs i=some e')
  (h: ∀cs' w',RowAt ex t K cs' (xs.set i.toNat e)→SH w0 K0 M w' K (obj g cs' U fr::L)→WL P ops Q N rest E w'):WL P ops Q N (⟨none,.store T x y,ty,pos,af,gd⟩::rest) E w:=by
 obtain⟨g0,g1,g2⟩:=getI_some hz
 have hi:=(List.getElem?_eq_some_iff.1 g2).1
 have hle:(i.toNat+1)*t.size≤xs.length*t.size:=Nat.mul_le_mul_right _ hi
 rw [Nat.add_mul,Nat.one_mul] at hle
 have hl:=hr.1.1
 obtain⟨h1,h2⟩:=rt_store hT hx hy (t.size_eq hv) (t.ones hv) hS (by simp;omega)
 exact wl_do hw h1 (h _ _ (hr.set hi hv) h2)
theorem SH.freeze {α:Type}{t:Ty α}{g:Nat}{cs:List Value}{xs:List α}(h:SH w0 K0 M w K (obj g cs U::L))(hr:RowAt true t K cs xs)(hm:xs.length≤maxLen):
  ∃K',KLe K K'∧SliceAt t K' (some ⟨g,0,none⟩) xs.length xs.length xs∧SH w0 K0 M w K' (tail (.slice (some ⟨g,0,none⟩) xs.length xs.length) U t.size::L):=by
 obtain⟨e,_⟩:=h.obj_at
 have hnone:=((h.items _ (List.mem_cons_self ..)).2 g rfl).2
 have hlt:=h.own
 have hle:KLe K (K.put g (fun o=>cs[o]?)):=fun b o v e'=>by
  by_cases hb:b=g
  ·rw [hb,hnone] at e';cases e'
  ·rw [K.put_other _ hb];exact e'
 refine⟨_,hle,SliceAt.of_cells rfl (Nat.le_refl _) hm (fun i z hz=>?_),?_⟩
 ·obtain⟨u,hu,hk⟩:=hr.2.2 i z hz
  exact⟨u,t.mono hle hu,fun j d e=>by rw [K.put_same];exact hk j d e⟩
 ·refine h.drop.step (w':=w) rfl rfl rfl (Nat.le_refl _) (by omega) (fun b _ _=>rfl) hlt.1 hlt.2 h.apart (fun b hb=>K.put_other _ hb) (fun o v e=>hle g o v e)
   (fun o v e=>?_) rfl ⟨.inr ⟨g,_,_,rfl,Nat.le_refl _,hm⟩,g,_,_,_,rfl,e,by simpa using hr.1.2 rfl,fun i hi=>?_⟩
  ·rw [K.put_same] at e;rw [h.obj_cell];exact e
  ·rw [K.put_same,List.getElem?_eq_none];rw [hr.1.2 rfl];exact hi
theorem RowAt.at {ex:Bool}{α:Type}{t:Ty α}{cs:List Value}{xs:List α}{i:Int}{e:α}(hr:RowAt ex t K cs xs)(hz:getI xs i=some e): ∃u,t.rel K u e∧∀j d,u.cells.toList[j]? =some d→cs[i.toNat*t.size+j]? =some d:=
 hr.2.2 _ _ (getI_some hz).2.2
section
variable {a b:UInt32}
end
section
variable {H F:World→Prop}{st:Nat}{I:List (Nat×Nat)}
end
end
def ltO {β:Type}(c:β→β→Option Int)(x y:β):Bool:=decide ((c x y).getD 0<0)
def sortOk {β:Type}(c:β→β→Option Int)(xs:List β):Bool:=
 decide (xs.length<4611686018427387904)&&(xs.all fun x=>xs.all fun y=>(c x y).isSome)&&(xs.all fun x=> !ltO c x x)&&
  (xs.all fun x=>xs.all fun y=>xs.all fun z=> !(ltO c x y&&ltO c y z)||ltO c x z)&&(xs.all fun x=>xs.all fun y=>xs.all fun z=>(ltO c x y||ltO c y z)|| !ltO c x z)&&
  decide (xs.Pairwise fun a b=>ltO c a b=true∨ltO c b a=true)
def sortO {β:Type}(c:β→β→Option Int)(xs:List β):Option (List β):=if sortOk c xs=true then some (xs.mergeSort fun x y=> !ltO c y x) else none
end Go.Fk
