/-
  Pointers that may be nil to data that turn no more. Of no program.
-/
import Derived.Test.YtpjefkdclnmlfaaCoreR
namespace Go.Fk
open Go
def PtrO {α:Type}(t:Ty α)(K:KMap)(v:Value):Option α→Prop
 | none=>v= .pointer none
 | some x=>PtrK t K v x
theorem PtrO.mono {α:Type}{t:Ty α}{K K':KMap}(h:KLe K K'){v:Value}{m:Option α}(p:PtrO t K v m):PtrO t K' v m:=by
 cases m with
 | none=>exact p
 | some x=>exact PtrK.mono h p
section
variable {P:Program}{E:Env}{w:World}{K:KMap}{x y:Operand}{T T' U:TypeId}
section
variable {ops:Array Oper}{Q:Exit→Act→World→Prop}{N size bytes:Nat}{zero:Value}{agg:Bool}{z:Operand}{d:Tmp}{ty:TypeId}{pos:String}{af:Array Edge}{gd:Option (Nat×Bool)}{H F:World→Prop}{st:Nat}{I:List (Nat×Nat)}
end
end
end Go.Fk
