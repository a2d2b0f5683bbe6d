/-
  Pointers that may be nil to data that turn no more. Of no program.
-/
import Derived.Test.YtpjefkdclnmlfaaGreatCoreR
namespace Go.Fk
open Go
def PtrO {α:Type}(t:Ty α)(K:KMap)(v:Value):Option α→Prop
 | none=>v= .pointer none
 | some x=>PtrK t K v x
theorem PtrO.mono {α:Type}{t:Ty α}{K K':KMap}(h:KLe K K'){v:Value}{m:Option α}(p:PtrO t K v m):PtrO t K' v m:=by
 cases m with
 | none=>exact p
 | some x=>exact PtrK.mono h p
theorem PtrO.get {α:Type}{t:Ty α}{K:KMap}{v:Value}{m:Option α}{x:α}(p:PtrO t K v m)(hx:m=some x): ∃b o u,v= .pointer (some ⟨b,o,none⟩)∧t.rel K u x∧AtK K b o u.cells.toList:=by
 subst hx;exact p
section
variable {P:Program}{E:Env}{w:World}{K:KMap}{x y:Operand}{T T' U:TypeId}
theorem run_equalIn_ptr {v:Value}{α:Type}{t:Ty α}{m:Option α}(d:Nat)(hT:P.underlying T=some (.pointer U))(p:PtrO t K v m):(Op.equalIn (d+1) T v (.pointer none)).run P w= .ok m.isNone w:=by
 cases m with
 | none=>
  have hv:v= .pointer none:=p
  subst hv
  simp [Op.equalIn,run_underlying hT]
 | some z=>
  obtain⟨b,o,u,rfl,_⟩:=p
  simp [Op.equalIn,run_underlying hT]
theorem rv_pnil {v:Value}{α:Type}{t:Ty α}{m:Option α}(hT:P.underlying T=some (.pointer U))(hx:ev E x=some v)(hy:ev E y=some (.pointer none))(p:PtrO t K v m):RV P E w (.binOp .eql T x y T') (.bool m.isNone):=
 fun ρ _ _ _ _ _ ha=>by
  have h:=run_equalIn_ptr (P:=P) (w:=w) 9999 hT p
  simp only [execOp,ha x _ hx,ha y _ hy]
  have hv: ∃q,v= .pointer q:=by
   cases m with
   | none=>exact⟨none,p⟩
   | some z=>obtain⟨b,o,u,e,_⟩:=p;exact⟨_,e⟩
  obtain⟨q,rfl⟩:=hv
  simp only [eqGuard,binOp,Op.equal,Op.maxDepth]
  simp [h]
theorem rv_pnotnil {v:Value}{α:Type}{t:Ty α}{m:Option α}(hT:P.underlying T=some (.pointer U))(hx:ev E x=some v)(hy:ev E y=some (.pointer none))(p:PtrO t K v m):RV P E w (.binOp .neq T x y T') (.bool m.isSome):=
 fun ρ _ _ _ _ _ ha=>by
  have h:=run_equalIn_ptr (P:=P) (w:=w) 9999 hT p
  simp only [execOp,ha x _ hx,ha y _ hy]
  have hv: ∃q,v= .pointer q:=by
   cases m with
   | none=>exact⟨none,p⟩
   | some z=>obtain⟨b,o,u,e,_⟩:=p;exact⟨_,e⟩
  obtain⟨q,rfl⟩:=hv
  simp only [eqGuard,binOp,Op.equal,Op.maxDepth]
  simp [h]
section
variable {ops:Array Oper}{Q:Exit→Act→World→Prop}{N size bytes:Nat}{zero:Value}{agg:Bool}{z:Operand}{d:Tmp}{ty:TypeId}{pos:String}{af:Array Edge}{gd:Option (Nat×Bool)}{H F:World→Prop}{st:Nat}{I:List (Nat×Nat)}
end
end
end Go.Fk
