/-
  Rows that the call makes and writes by index; 32-bit numbers; '==' on structs. Of no program.
-/
import Derived.Test.YtpjefkdclnmlfaaGreatCoreJ
import Derived.Laws.StructEq
import Derived.Laws.IdiomStrings
namespace Go.Fk
open Go
set_option linter.unusedSectionVars false
variable [dr:Dr]
section
variable {P:Program}{ops:Array Oper}{Q:Exit→Act→World→Prop}{N:Nat}{E:Env}{w w0:World}{K K0:KMap}{M:List Nat}{L:List Item}{C:World→Prop}
variable {x y z:Operand}{T T' U:TypeId}{size bytes:Nat}{zero:Value}{agg:Bool}{rest:List Oper}{d:Tmp}{ty:TypeId}{pos:String}{af:Array Edge}{gd:Option (Nat×Bool)}{fr:Nat×Nat}
def RowAt {α:Type}(ex:Bool)(t:Ty α)(K:KMap)(cs:List Value)(xs:List α):Prop:=
 (xs.length*t.size≤cs.length∧(ex=true→cs.length=xs.length*t.size))∧(∀c∈cs,c.oneCell'=true)∧∀(i:Nat) x,xs[i]? =some x→∃u,t.rel K u x∧∀j d,u.cells.toList[j]? =some d→cs[i*t.size+j]? =some d
theorem RowAt.mono {ex:Bool}{α:Type}{t:Ty α}{K':KMap}(h:KLe K K'){cs:List Value}{xs:List α}(p:RowAt ex t K cs xs):RowAt ex t K' cs xs:=
 ⟨p.1,p.2.1,fun i x hx=>let ⟨u,hu,hk⟩:=p.2.2 i x hx;⟨u,t.mono h hu,hk⟩⟩
theorem RowAt.set {ex:Bool}{α:Type}{t:Ty α}{cs:List Value}{xs:List α}{i:Nat}{u:Value}{e:α}(p:RowAt ex t K cs xs)(hi:i<xs.length)(hu:t.rel K u e):
  RowAt ex t K (splice cs (i*t.size) u.cells.toList) (xs.set i e):=by
 obtain⟨⟨h1,h1x⟩,h2,h3⟩:=p
 have hl:u.cells.toList.length=t.size:=by simpa using t.size_eq hu
 have hle:(i+1)*t.size≤xs.length*t.size:=Nat.mul_le_mul_right _ hi
 rw [Nat.add_mul,Nat.one_mul] at hle
 have htk:(cs.take (i*t.size)).length=i*t.size:=by rw [List.length_take];omega
 have hsl:(splice cs (i*t.size) u.cells.toList).length=cs.length:=by simp only [splice,List.length_append,List.length_drop,htk,hl];omega
 refine⟨⟨by rw [hsl,List.length_set];exact h1,fun e=>by rw [hsl,List.length_set];exact h1x e⟩,fun c hc=>?_,fun k z hz=>?_⟩
 ·simp only [splice,List.mem_append] at hc
  rcases hc with (hc | hc) | hc
  ·exact h2 c (List.mem_of_mem_take hc)
  ·exact t.ones hu c hc
  ·exact h2 c (List.mem_of_mem_drop hc)
 ·rw [List.getElem?_set] at hz
  split at hz
  ·rename_i hik
   subst hik
   cases hz
   refine⟨u,hu,fun j d e=>?_⟩
   have hj:=(List.getElem?_eq_some_iff.1 e).1
   simp only [splice,List.append_assoc]
   rw [List.getElem?_append_right (by rw [htk];omega),htk,List.getElem?_append_left (by omega)]
   rw [←e];congr 1;omega
  ·rename_i hik
   obtain⟨u',hu',hk⟩:=h3 k z hz
   refine⟨u',hu',fun j d e=>?_⟩
   have hj:=(List.getElem?_eq_some_iff.1 e).1
   have hl':u'.cells.toList.length=t.size:=by simpa using t.size_eq hu'
   have h5:=hk j d e
   simp only [splice,List.append_assoc]
   rcases Nat.lt_or_ge k i with hlt | hge
   ·have:(k+1)*t.size≤i*t.size:=Nat.mul_le_mul_right _ hlt
    rw [Nat.add_mul,Nat.one_mul] at this
    rw [List.getElem?_append_left (by rw [htk];omega),List.getElem?_take,if_pos (by omega)];exact h5
   ·have:(i+1)*t.size≤k*t.size:=Nat.mul_le_mul_right _ (by omega)
    rw [Nat.add_mul,Nat.one_mul] at this
    rw [List.getElem?_append_right (by rw [htk];omega),htk,List.getElem?_append_right (by omega),hl,List.getElem?_drop,←h5]
    congr 1;omega
theorem rv_indexRow {α:Type}{t:Ty α}{g m c:Nat}{xs:List α}{k:IntKind}{i:Int}{e:α}(hT:P.underlying T=some (.slice U))(hU:TF P U t.size agg zero bytes)
  (hx:ev E x=some (.slice (some ⟨g,0,none⟩) m c))(hy:ev E y=some (.int k i))(hm:m=xs.length)(hz:getI xs i=some e):RV P E w (.indexAddr T x y) (.pointer (some ⟨g,i.toNat*t.size,none⟩)):=fun ρ _ _ _ _ _ ha=>by
 obtain⟨g0,g1,g2⟩:=getI_some hz
 subst hm
 have hlt:i<(xs.length:Int):=by omega
 simp [execOp,ha x _ hx,ha y _ hy,Instr.indexAt,asIntOf,run_underlying hT,g0,hlt,run_sizeOf hU,add_at]
theorem rv_lenRow {α:Type}{xs:List α}{a:Option Addr}{m c:Nat}(hT:P.underlying T=some (.slice U))(hx:ev E x=some (.slice a m c))(hm:m=xs.length):
  RV P E w (.call {callee:=.builtin .len,args:=#[x],argTypes:=#[T]}) (.int .i64 xs.length):=fun ρ _ _ _ _ _ ha=>by
 subst hm
 simp [execOp,resolve,invoke,builtin,ha x _ hx,Builtin.len_,run_underlying hT,goInt]
theorem RowAt.at {ex:Bool}{α:Type}{t:Ty α}{cs:List Value}{xs:List α}{i:Int}{e:α}(hr:RowAt ex t K cs xs)(hz:getI xs i=some e): ∃u,t.rel K u e∧∀j d,u.cells.toList[j]? =some d→cs[i.toNat*t.size+j]? =some d:=
 hr.2.2 _ _ (getI_some hz).2.2
section
variable {a b:UInt32}
end
theorem rv_neS {xs ys:Array Value}{b:Bool}(hm:P.eqGuardType P.depth T=false)(hx:ev E x=some (.agg xs))(hy:ev E y=some (.agg ys))(hr: ∀w,(Op.equalIn 10000 T (.agg xs) (.agg ys)).run P w= .ok b w):
  RV P E w (.binOp .neq T x y T') (.bool (!b)):=fun ρ _ _ _ _ _ ha=>by
 simp only [execOp,ha x _ hx,ha y _ hy,Sem.run_bind,run_eqGuard_agg w .neq T x y xs ys hm,run_neq_struct,hr,Result.andThen_ok]
 rfl
theorem part_one {v:Value}{vs:Array Value}{o:Nat}{D:TypeDesc}(w:World)(hT:P.underlying T=some D)(hD:(match D with | .struct _=>true | .array _ _=>true | _=>false)=false)(h:vs[o]? =some v):(part T vs o).run P w= .ok v w:=by
 cases D<;>simp_all [part,isAgg,run_underlying hT]
theorem eqF_nil (d:Nat)(xs ys:Array Value)(w:World):(Op.eqFields d xs ys []).run P w= .ok true w:=by simp [Op.eqFields]
theorem eqF_cons {d:Nat}{f:Field}{fs:List Field}{xs ys:Array Value}{u v:Value}{b r:Bool}{w:World}(hn:f.name≠ "_")(h1:(part f.type xs f.offset).run P w= .ok u w)(h2:(part f.type ys f.offset).run P w= .ok v w)
  (h3:(Op.equalIn d f.type u v).run P w= .ok b w)(h4:(Op.eqFields d xs ys fs).run P w= .ok r w):(Op.eqFields d xs ys (f::fs)).run P w= .ok (b&&r) w:=by
 simp only [Op.eqFields,hn,ne_eq,not_false_eq_true,if_true,Sem.run_bind,h1,h2,h3,Result.andThen_ok]
 cases b
 ·simp
 ·simp [h4]
theorem eqIn_i (d:Nat){T:TypeId}(w:World)(a b:Int)(h:P.underlying T=some (.int .i64)):(Op.equalIn (d+1) T (.int .i64 a) (.int .i64 b)).run P w= .ok (a==b) w:=by simp [Op.equalIn,run_underlying h]
theorem eqIn_s (d:Nat){T:TypeId}(w:World)(a b:Str)(h:P.underlying T=some .string):(Op.equalIn (d+1) T (sv a) (sv b)).run P w= .ok (a==b) w:=by
 simp only [sv,Op.equalIn,Sem.run_bind,run_underlying h,Result.andThen_ok,beq_toListBytes]
 simp
section
variable {H F:World→Prop}{st:Nat}{I:List (Nat×Nat)}
theorem wg_indexAddr {α:Type}{t:Ty α}{a:Option Addr}{nn c:Nat}{xs:List α}{k:IntKind}{i:Int}{e:α}{n j:Nat}{listed listed':Array Bool}
  (hi:ops[j]? =some ⟨some d,.indexAddr T x y,ty,pos,af,gd⟩)(hsel:Region.noSelect ops=true)(hQ:PanicOk Q)(hwa:waits .any ops I=true)(hist:Nat.beq j st=false)
  (hf:Region.free .any ops listed j=true)(hr:(Region.ready .any ops listed).contains j=true)(hl:listed.setIfInBounds j true=listed')(hS:SG H F st I listed w)
  (hw:Wanted ops N E gd)(hd:Nat.blt d N=true)(hT:P.underlying T=some (.slice U))(hU:TF P U t.size agg zero bytes)
  (hx:ev E x=some (.slice a nn c))(hy:ev E y=some (.int k i))(hs:SliceAt t K a nn c xs)(hz:getI xs i=some e)
  (h: ∀b o u,t.rel K u e→AtK K b o u.cells.toList→WG P ops Q H F st I N n listed' ((d,.pointer (some ⟨b,o,none⟩))::E) w):WG P ops Q H F st I N (n+1) listed E w:=by
 obtain⟨b,o,u,h1,h2,h3⟩:=rv_indexAddr hT hU hx hy hs hz
 exact wg_val (fun _=>True) hi hsel hQ hwa hist hf hr hl (.inl fun _ _=>trivial) hS hw hd (fun w' _=>h1 w') (h b o u h2 h3)
end
end
def ltO {β:Type}(c:β→β→Option Int)(x y:β):Bool:=decide ((c x y).getD 0<0)
def sortOk {β:Type}(c:β→β→Option Int)(xs:List β):Bool:=
 decide (xs.length<4611686018427387904)&&(xs.all fun x=>xs.all fun y=>(c x y).isSome)&&(xs.all fun x=> !ltO c x x)&&
  (xs.all fun x=>xs.all fun y=>xs.all fun z=> !(ltO c x y&&ltO c y z)||ltO c x z)&&(xs.all fun x=>xs.all fun y=>xs.all fun z=>(ltO c x y||ltO c y z)|| !ltO c x z)&&
  decide (xs.Pairwise fun a b=>ltO c a b=true∨ltO c b a=true)
def sortO {β:Type}(c:β→β→Option Int)(xs:List β):Option (List β):=if sortOk c xs=true then some (xs.mergeSort fun x y=> !ltO c y x) else none
end Go.Fk
