/-
  Plain data of the program's struct types, and how they lie in memory. Printed by gen.py.
-/
import Derived.Test.YtepcfgnicnibnaaGreatDoorCoreMZ
namespace Go.Fk
open Go
structure z2 where
 b_:List UInt8
 p_:Int
structure O0 where
 Name:q9
 Text:q9
def K5:Ty O0 where
 size:=2
 agg:=true
 rel:=fun K v x=>v= .agg #[sv x.Name,sv x.Text]∧x.Name.length≤maxLen∧x.Text.length≤maxLen
 mono:=fun _ _ _ h=>h
 shape:=by rintro K v x ⟨rfl,_,_⟩;exact .inl ⟨rfl,_,rfl⟩
 size_eq:=by rintro K v x ⟨rfl,_,_⟩;rfl
 ones:=by rintro K v x ⟨rfl,_,_⟩;simp [Value.cells,Value.oneCell',sv]
structure a4x where
 Name:q9
 Num:Int
def M5:Ty a4x where
 size:=2
 agg:=true
 rel:=fun K v x=>v= .agg #[sv x.Name,.int .i64 x.Num]∧x.Name.length≤maxLen∧i7 x.Num
 mono:=fun _ _ _ h=>h
 shape:=by rintro K v x ⟨rfl,_,_⟩;exact .inl ⟨rfl,_,rfl⟩
 size_eq:=by rintro K v x ⟨rfl,_,_⟩;rfl
 ones:=by rintro K v x ⟨rfl,_,_⟩;simp [Value.cells,Value.oneCell',sv]
structure y5 where
 Id:Int
 Fields:List O0
 Nums:List a4x
def F8:Ty y5 where
 size:=3
 agg:=true
 rel:=fun K v x=>∃(a2:Option Addr) (n3 c4:Nat) (a6:Option Addr) (n7 c8:Nat),v= .agg #[.int .i64 x.Id,.slice a2 n3 c4,.slice a6 n7 c8]∧i7 x.Id∧b7 K5 K a2 n3 c4 x.Fields∧b7 M5 K a6 n7 c8 x.Nums
 mono:=fun h _ _ ⟨a2,n3,c4,a6,n7,c8,e,hr1,hs5,hs9⟩=>⟨a2,n3,c4,a6,n7,c8,e,hr1,hs5.mono h,hs9.mono h⟩
 shape:=by rintro K v x ⟨a2,n3,c4,a6,n7,c8,rfl,_,_,_⟩;exact .inl ⟨rfl,_,rfl⟩
 size_eq:=by rintro K v x ⟨a2,n3,c4,a6,n7,c8,rfl,_,_,_⟩;rfl
 ones:=by rintro K v x ⟨a2,n3,c4,a6,n7,c8,rfl,_,_,_⟩;simp [Value.cells,Value.oneCell']
structure Z5 where
 Text:q9
 At:Int
 From:Int
 To:Int
def a6j:Ty Z5 where
 size:=4
 agg:=true
 rel:=fun K v x=>v= .agg #[sv x.Text,.int .i64 x.At,.int .i64 x.From,.int .i64 x.To]∧x.Text.length≤maxLen∧i7 x.At∧i7 x.From∧i7 x.To
 mono:=fun _ _ _ h=>h
 shape:=by rintro K v x ⟨rfl,_,_,_,_⟩;exact .inl ⟨rfl,_,rfl⟩
 size_eq:=by rintro K v x ⟨rfl,_,_,_,_⟩;rfl
 ones:=by rintro K v x ⟨rfl,_,_,_,_⟩;simp [Value.cells,Value.oneCell',sv]
structure V7 where
 From:List q9
 To:q9
def L0:Ty V7 where
 size:=2
 agg:=true
 rel:=fun K v x=>∃(a1:Option Addr) (n2 c3:Nat),v= .agg #[.slice a1 n2 c3,sv x.To]∧b7 D8 K a1 n2 c3 x.From∧x.To.length≤maxLen
 mono:=fun h _ _ ⟨a1,n2,c3,e,hs4,hl5⟩=>⟨a1,n2,c3,e,hs4.mono h,hl5⟩
 shape:=by rintro K v x ⟨a1,n2,c3,rfl,_,_⟩;exact .inl ⟨rfl,_,rfl⟩
 size_eq:=by rintro K v x ⟨a1,n2,c3,rfl,_,_⟩;rfl
 ones:=by rintro K v x ⟨a1,n2,c3,rfl,_,_⟩;simp [Value.cells,Value.oneCell',sv]
structure u5 where
 Stops:List q9
 Syns:List V7
structure C8 where
 Text:q9
 At:Int
def P5:Ty C8 where
 size:=2
 agg:=true
 rel:=fun K v x=>v= .agg #[sv x.Text,.int .i64 x.At]∧x.Text.length≤maxLen∧i7 x.At
 mono:=fun _ _ _ h=>h
 shape:=by rintro K v x ⟨rfl,_,_⟩;exact .inl ⟨rfl,_,rfl⟩
 size_eq:=by rintro K v x ⟨rfl,_,_⟩;rfl
 ones:=by rintro K v x ⟨rfl,_,_⟩;simp [Value.cells,Value.oneCell',sv]
structure G7 where
 Doc:Int
 At:List Int
def Z0:Ty G7 where
 size:=2
 agg:=true
 rel:=fun K v x=>∃(a2:Option Addr) (n3 c4:Nat),v= .agg #[.int .i64 x.Doc,.slice a2 n3 c4]∧i7 x.Doc∧b7 C9 K a2 n3 c4 x.At
 mono:=fun h _ _ ⟨a2,n3,c4,e,hr1,hs5⟩=>⟨a2,n3,c4,e,hr1,hs5.mono h⟩
 shape:=by rintro K v x ⟨a2,n3,c4,rfl,_,_⟩;exact .inl ⟨rfl,_,rfl⟩
 size_eq:=by rintro K v x ⟨a2,n3,c4,rfl,_,_⟩;rfl
 ones:=by rintro K v x ⟨a2,n3,c4,rfl,_,_⟩;simp [Value.cells,Value.oneCell']
structure B1 where
 Field:q9
 Term:q9
 Posts:List G7
def B8:Ty B1 where
 size:=3
 agg:=true
 rel:=fun K v x=>∃(a3:Option Addr) (n4 c5:Nat),v= .agg #[sv x.Field,sv x.Term,.slice a3 n4 c5]∧x.Field.length≤maxLen∧x.Term.length≤maxLen∧b7 Z0 K a3 n4 c5 x.Posts
 mono:=fun h _ _ ⟨a3,n4,c5,e,hl1,hl2,hs6⟩=>⟨a3,n4,c5,e,hl1,hl2,hs6.mono h⟩
 shape:=by rintro K v x ⟨a3,n4,c5,rfl,_,_,_⟩;exact .inl ⟨rfl,_,rfl⟩
 size_eq:=by rintro K v x ⟨a3,n4,c5,rfl,_,_,_⟩;rfl
 ones:=by rintro K v x ⟨a3,n4,c5,rfl,_,_,_⟩;simp [Value.cells,Value.oneCell',sv]
structure A7 where
 Docs:List y5
 Entries:List B1
structure r5 where
 Kind:Int
 Field:q9
 Words:List q9
 From:Int
 To:Int
 Kids:List r5
def b9L (tk:Ty r5):Ty r5 where
 size:=6
 agg:=true
 rel:=fun K v x=>∃(a3:Option Addr) (n4 c5:Nat) (a9:Option Addr) (n10 c11:Nat),v= .agg #[.int .i64 x.Kind,sv x.Field,.slice a3 n4 c5,.int .i64 x.From,.int .i64 x.To,.slice a9 n10 c11]∧i7 x.Kind∧x.Field.length≤maxLen∧b7 D8 K a3 n4 c5 x.Words∧i7 x.From∧i7 x.To∧b7 tk K a9 n10 c11 x.Kids
 mono:=fun h _ _ ⟨a3,n4,c5,a9,n10,c11,e,hr1,hl2,hs6,hr7,hr8,hs12⟩=>⟨a3,n4,c5,a9,n10,c11,e,hr1,hl2,hs6.mono h,hr7,hr8,hs12.mono h⟩
 shape:=by rintro K v x ⟨a3,n4,c5,a9,n10,c11,rfl,_,_,_,_,_,_⟩;exact .inl ⟨rfl,_,rfl⟩
 size_eq:=by rintro K v x ⟨a3,n4,c5,a9,n10,c11,rfl,_,_,_,_,_,_⟩;rfl
 ones:=by rintro K v x ⟨a3,n4,c5,a9,n10,c11,rfl,_,_,_,_,_,_⟩;simp [Value.cells,Value.oneCell',sv]
def b5E:Lay r5 where
 F:=b9L
 size:=6
 agg:=true
 size_F:=fun _=>rfl
 agg_F:=fun _=>rfl
 mono_F:=fun hs hk _ _ ⟨a3,n4,c5,a9,n10,c11,e,hr1,hl2,hs6,hr7,hr8,hs12⟩=>⟨a3,n4,c5,a9,n10,c11,e,hr1,hl2,hs6,hr7,hr8,hs12.imp hs hk⟩
def F3:Ty r5:=b5E.all
def b54:Ty r5:=b9L F3
theorem b1J:F3=b54:=b5E.all_eq fun⟨a3,n4,c5,a9,n10,c11,e,hr1,hl2,hs6,hr7,hr8,hs12⟩=>
 let ⟨N,hN⟩:=b5E.slice_bound hs12
 ⟨N,a3,n4,c5,a9,n10,c11,e,hr1,hl2,hs6,hr7,hr8,hN⟩
theorem Q6 {K:F0}{v:Value}{x:r5}(h:F3.rel K v x):b54.rel K v x:=b1J▸h
theorem Z1 {K:F0}{v:Value}{x:r5}(h:b54.rel K v x):F3.rel K v x:=b1J▸h
structure B0 where
 Doc:Int
 Points:Int
def E8:Ty B0 where
 size:=2
 agg:=true
 rel:=fun K v x=>v= .agg #[.int .i64 x.Doc,.int .i64 x.Points]∧i7 x.Doc∧i7 x.Points
 mono:=fun _ _ _ h=>h
 shape:=by rintro K v x ⟨rfl,_,_⟩;exact .inl ⟨rfl,_,rfl⟩
 size_eq:=by rintro K v x ⟨rfl,_,_⟩;rfl
 ones:=by rintro K v x ⟨rfl,_,_⟩;simp [Value.cells,Value.oneCell']
structure X5 where
 field_:Bool
 leastWords_:Int
 mostWords_:Int
 low_:Int
 high_:Int
 ranged_:Bool
 leastKids_:Int
 mostKids_:Int
structure S8 where
 c_:u5
 s_:A7
structure a6m where
 Up:Int
 Down:Int
structure a32 where
 Num:Int
 Many:Int
def a6X:Ty a32 where
 size:=2
 agg:=true
 rel:=fun K v x=>v= .agg #[.int .i64 x.Num,.int .i64 x.Many]∧i7 x.Num∧i7 x.Many
 mono:=fun _ _ _ h=>h
 shape:=by rintro K v x ⟨rfl,_,_⟩;exact .inl ⟨rfl,_,rfl⟩
 size_eq:=by rintro K v x ⟨rfl,_,_⟩;rfl
 ones:=by rintro K v x ⟨rfl,_,_⟩;simp [Value.cells,Value.oneCell']
end Go.Fk
