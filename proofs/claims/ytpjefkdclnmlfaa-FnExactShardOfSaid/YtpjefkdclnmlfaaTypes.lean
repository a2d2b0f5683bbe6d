/-
  Plain data of the program's struct types, and how they lie in memory. Printed by gen.py.
-/
import Derived.Test.YtpjefkdclnmlfaaCoreU
namespace Go.Fk
open Go
structure GField where
 Name:Str
 Text:Str
def tGField:Ty GField where
 size:=2
 agg:=true
 rel:=fun K v x=>v= .agg #[sv x.Name,sv x.Text]∧x.Name.length≤maxLen∧x.Text.length≤maxLen
 mono:=fun _ _ _ h=>h
 shape:=by rintro K v x ⟨rfl,_,_⟩;exact .inl ⟨rfl,_,rfl⟩
 size_eq:=by rintro K v x ⟨rfl,_,_⟩;rfl
 ones:=by rintro K v x ⟨rfl,_,_⟩;simp [Value.cells,Value.oneCell',sv]
structure GAttr where
 Name:Str
 Num:Int
def tGAttr:Ty GAttr where
 size:=2
 agg:=true
 rel:=fun K v x=>v= .agg #[sv x.Name,.int .i64 x.Num]∧x.Name.length≤maxLen∧rng64 x.Num
 mono:=fun _ _ _ h=>h
 shape:=by rintro K v x ⟨rfl,_,_⟩;exact .inl ⟨rfl,_,rfl⟩
 size_eq:=by rintro K v x ⟨rfl,_,_⟩;rfl
 ones:=by rintro K v x ⟨rfl,_,_⟩;simp [Value.cells,Value.oneCell',sv]
structure GDoc where
 Id:Int
 Fields:List GField
 Nums:List GAttr
def tGDoc:Ty GDoc where
 size:=3
 agg:=true
 rel:=fun K v x=>∃(a2:Option Addr) (n3 c4:Nat) (a6:Option Addr) (n7 c8:Nat),v= .agg #[.int .i64 x.Id,.slice a2 n3 c4,.slice a6 n7 c8]∧rng64 x.Id∧SliceAt tGField K a2 n3 c4 x.Fields∧SliceAt tGAttr K a6 n7 c8 x.Nums
 mono:=fun h _ _ ⟨a2,n3,c4,a6,n7,c8,e,hr1,hs5,hs9⟩=>⟨a2,n3,c4,a6,n7,c8,e,hr1,hs5.mono h,hs9.mono h⟩
 shape:=by rintro K v x ⟨a2,n3,c4,a6,n7,c8,rfl,_,_,_⟩;exact .inl ⟨rfl,_,rfl⟩
 size_eq:=by rintro K v x ⟨a2,n3,c4,a6,n7,c8,rfl,_,_,_⟩;rfl
 ones:=by rintro K v x ⟨a2,n3,c4,a6,n7,c8,rfl,_,_,_⟩;simp [Value.cells,Value.oneCell']
end Go.Fk
