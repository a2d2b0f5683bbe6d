/-
  Plain data of the program's struct types, and how they lie in memory. Printed by gen.py.
-/
import Derived.Test.YtpjefkdclnmlfaaCoreU
namespace Go.Fk
open Go
structure GArc where
 Byte:UInt8
 To:Int
def tGArc:Ty GArc where
 size:=2
 agg:=true
 rel:=fun K v x=>v= .agg #[iv8 x.Byte,.int .i64 x.To]∧rng64 x.To
 mono:=fun _ _ _ h=>h
 shape:=by rintro K v x ⟨rfl,_⟩;exact .inl ⟨rfl,_,rfl⟩
 size_eq:=by rintro K v x ⟨rfl,_⟩;rfl
 ones:=by rintro K v x ⟨rfl,_⟩;simp [Value.cells,Value.oneCell',iv8]
structure GState where
 Final:Bool
 Many:Int
 Arcs:List GArc
def tGState:Ty GState where
 size:=3
 agg:=true
 rel:=fun K v x=>∃(a2:Option Addr) (n3 c4:Nat),v= .agg #[.bool x.Final,.int .i64 x.Many,.slice a2 n3 c4]∧rng64 x.Many∧SliceAt tGArc K a2 n3 c4 x.Arcs
 mono:=fun h _ _ ⟨a2,n3,c4,e,hr1,hs5⟩=>⟨a2,n3,c4,e,hr1,hs5.mono h⟩
 shape:=by rintro K v x ⟨a2,n3,c4,rfl,_,_⟩;exact .inl ⟨rfl,_,rfl⟩
 size_eq:=by rintro K v x ⟨a2,n3,c4,rfl,_,_⟩;rfl
 ones:=by rintro K v x ⟨a2,n3,c4,rfl,_,_⟩;simp [Value.cells,Value.oneCell']
structure GDawg where
 states_:List GState
end Go.Fk
