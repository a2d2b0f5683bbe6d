/-
  Plain data of the program's struct types, and how they lie in memory. Printed by gen.py.
-/
import Derived.Test.YtepcfgnicnibnaaCoreU
namespace Go.Fk
open Go
structure GHit where
 Doc:Int
 Points:Int
def tGHit:Ty GHit where
 size:=2
 agg:=true
 rel:=fun K v x=>v= .agg #[.int .i64 x.Doc,.int .i64 x.Points]∧rng64 x.Doc∧rng64 x.Points
 mono:=fun _ _ _ h=>h
 shape:=by rintro K v x ⟨rfl,_,_⟩;exact .inl ⟨rfl,_,rfl⟩
 size_eq:=by rintro K v x ⟨rfl,_,_⟩;rfl
 ones:=by rintro K v x ⟨rfl,_,_⟩;simp [Value.cells,Value.oneCell']
end Go.Fk
