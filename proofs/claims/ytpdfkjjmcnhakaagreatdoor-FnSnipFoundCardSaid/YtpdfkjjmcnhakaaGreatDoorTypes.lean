/-
  Plain data of the program's struct types, and how they lie in memory. Printed by gen.py.
-/
import Derived.Test.YtpdfkjjmcnhakaaGreatDoorCoreMZ
namespace Go.Fk
open Go
structure y2 where
 b_:List UInt8
 p_:Int
structure I3 where
 Name:l3
 Text:l3
def F8:Ty I3 where
 size:=2
 agg:=true
 rel:=fun K v x=>v= .agg #[sv x.Name,sv x.Text]∧x.Name.length≤maxLen∧x.Text.length≤maxLen
 mono:=fun _ _ _ h=>h
 shape:=by rintro K v x ⟨rfl,_,_⟩;exact .inl ⟨rfl,_,rfl⟩
 size_eq:=by rintro K v x ⟨rfl,_,_⟩;rfl
 ones:=by rintro K v x ⟨rfl,_,_⟩;simp [Value.cells,Value.oneCell',sv]
structure a1J where
 Name:l3
 Num:Int
def H5:Ty a1J where
 size:=2
 agg:=true
 rel:=fun K v x=>v= .agg #[sv x.Name,.int .i64 x.Num]∧x.Name.length≤maxLen∧j5 x.Num
 mono:=fun _ _ _ h=>h
 shape:=by rintro K v x ⟨rfl,_,_⟩;exact .inl ⟨rfl,_,rfl⟩
 size_eq:=by rintro K v x ⟨rfl,_,_⟩;rfl
 ones:=by rintro K v x ⟨rfl,_,_⟩;simp [Value.cells,Value.oneCell',sv]
structure u1 where
 Id:Int
 Fields:List I3
 Nums:List a1J
def E5:Ty u1 where
 size:=3
 agg:=true
 rel:=fun K v x=>∃(a2:Option Addr) (n3 c4:Nat) (a6:Option Addr) (n7 c8:Nat),v= .agg #[.int .i64 x.Id,.slice a2 n3 c4,.slice a6 n7 c8]∧j5 x.Id∧b7 F8 K a2 n3 c4 x.Fields∧b7 H5 K a6 n7 c8 x.Nums
 mono:=fun h _ _ ⟨a2,n3,c4,a6,n7,c8,e,hr1,hs5,hs9⟩=>⟨a2,n3,c4,a6,n7,c8,e,hr1,hs5.mono h,hs9.mono h⟩
 shape:=by rintro K v x ⟨a2,n3,c4,a6,n7,c8,rfl,_,_,_⟩;exact .inl ⟨rfl,_,rfl⟩
 size_eq:=by rintro K v x ⟨a2,n3,c4,a6,n7,c8,rfl,_,_,_⟩;rfl
 ones:=by rintro K v x ⟨a2,n3,c4,a6,n7,c8,rfl,_,_,_⟩;simp [Value.cells,Value.oneCell']
structure M3 where
 Text:l3
 At:Int
 From:Int
 To:Int
def a2W:Ty M3 where
 size:=4
 agg:=true
 rel:=fun K v x=>v= .agg #[sv x.Text,.int .i64 x.At,.int .i64 x.From,.int .i64 x.To]∧x.Text.length≤maxLen∧j5 x.At∧j5 x.From∧j5 x.To
 mono:=fun _ _ _ h=>h
 shape:=by rintro K v x ⟨rfl,_,_,_,_⟩;exact .inl ⟨rfl,_,rfl⟩
 size_eq:=by rintro K v x ⟨rfl,_,_,_,_⟩;rfl
 ones:=by rintro K v x ⟨rfl,_,_,_,_⟩;simp [Value.cells,Value.oneCell',sv]
structure M2 where
 From:List l3
 To:l3
def G5:Ty M2 where
 size:=2
 agg:=true
 rel:=fun K v x=>∃(a1:Option Addr) (n2 c3:Nat),v= .agg #[.slice a1 n2 c3,sv x.To]∧b7 B3 K a1 n2 c3 x.From∧x.To.length≤maxLen
 mono:=fun h _ _ ⟨a1,n2,c3,e,hs4,hl5⟩=>⟨a1,n2,c3,e,hs4.mono h,hl5⟩
 shape:=by rintro K v x ⟨a1,n2,c3,rfl,_,_⟩;exact .inl ⟨rfl,_,rfl⟩
 size_eq:=by rintro K v x ⟨a1,n2,c3,rfl,_,_⟩;rfl
 ones:=by rintro K v x ⟨a1,n2,c3,rfl,_,_⟩;simp [Value.cells,Value.oneCell',sv]
structure o0 where
 Stops:List l3
 Syns:List M2
structure w8 where
 Text:l3
 At:Int
def G2:Ty w8 where
 size:=2
 agg:=true
 rel:=fun K v x=>v= .agg #[sv x.Text,.int .i64 x.At]∧x.Text.length≤maxLen∧j5 x.At
 mono:=fun _ _ _ h=>h
 shape:=by rintro K v x ⟨rfl,_,_⟩;exact .inl ⟨rfl,_,rfl⟩
 size_eq:=by rintro K v x ⟨rfl,_,_⟩;rfl
 ones:=by rintro K v x ⟨rfl,_,_⟩;simp [Value.cells,Value.oneCell',sv]
structure D1 where
 Doc:Int
 At:List Int
def P8:Ty D1 where
 size:=2
 agg:=true
 rel:=fun K v x=>∃(a2:Option Addr) (n3 c4:Nat),v= .agg #[.int .i64 x.Doc,.slice a2 n3 c4]∧j5 x.Doc∧b7 F2 K a2 n3 c4 x.At
 mono:=fun h _ _ ⟨a2,n3,c4,e,hr1,hs5⟩=>⟨a2,n3,c4,e,hr1,hs5.mono h⟩
 shape:=by rintro K v x ⟨a2,n3,c4,rfl,_,_⟩;exact .inl ⟨rfl,_,rfl⟩
 size_eq:=by rintro K v x ⟨a2,n3,c4,rfl,_,_⟩;rfl
 ones:=by rintro K v x ⟨a2,n3,c4,rfl,_,_⟩;simp [Value.cells,Value.oneCell']
structure v8 where
 Field:l3
 Term:l3
 Posts:List D1
def B4:Ty v8 where
 size:=3
 agg:=true
 rel:=fun K v x=>∃(a3:Option Addr) (n4 c5:Nat),v= .agg #[sv x.Field,sv x.Term,.slice a3 n4 c5]∧x.Field.length≤maxLen∧x.Term.length≤maxLen∧b7 P8 K a3 n4 c5 x.Posts
 mono:=fun h _ _ ⟨a3,n4,c5,e,hl1,hl2,hs6⟩=>⟨a3,n4,c5,e,hl1,hl2,hs6.mono h⟩
 shape:=by rintro K v x ⟨a3,n4,c5,rfl,_,_,_⟩;exact .inl ⟨rfl,_,rfl⟩
 size_eq:=by rintro K v x ⟨a3,n4,c5,rfl,_,_,_⟩;rfl
 ones:=by rintro K v x ⟨a3,n4,c5,rfl,_,_,_⟩;simp [Value.cells,Value.oneCell',sv]
structure A2 where
 Docs:List u1
 Entries:List v8
structure B5 where
 Kind:Int
 Field:l3
 Words:List l3
 From:Int
 To:Int
 Kids:List B5
def b3Z (tk:Ty B5):Ty B5 where
 size:=6
 agg:=true
 rel:=fun K v x=>∃(a3:Option Addr) (n4 c5:Nat) (a9:Option Addr) (n10 c11:Nat),v= .agg #[.int .i64 x.Kind,sv x.Field,.slice a3 n4 c5,.int .i64 x.From,.int .i64 x.To,.slice a9 n10 c11]∧j5 x.Kind∧x.Field.length≤maxLen∧b7 B3 K a3 n4 c5 x.Words∧j5 x.From∧j5 x.To∧b7 tk K a9 n10 c11 x.Kids
 mono:=fun h _ _ ⟨a3,n4,c5,a9,n10,c11,e,hr1,hl2,hs6,hr7,hr8,hs12⟩=>⟨a3,n4,c5,a9,n10,c11,e,hr1,hl2,hs6.mono h,hr7,hr8,hs12.mono h⟩
 shape:=by rintro K v x ⟨a3,n4,c5,a9,n10,c11,rfl,_,_,_,_,_,_⟩;exact .inl ⟨rfl,_,rfl⟩
 size_eq:=by rintro K v x ⟨a3,n4,c5,a9,n10,c11,rfl,_,_,_,_,_,_⟩;rfl
 ones:=by rintro K v x ⟨a3,n4,c5,a9,n10,c11,rfl,_,_,_,_,_,_⟩;simp [Value.cells,Value.oneCell',sv]
def b0z:Lay B5 where
 F:=b3Z
 size:=6
 agg:=true
 size_F:=fun _=>rfl
 agg_F:=fun _=>rfl
 mono_F:=fun hs hk _ _ ⟨a3,n4,c5,a9,n10,c11,e,hr1,hl2,hs6,hr7,hr8,hs12⟩=>⟨a3,n4,c5,a9,n10,c11,e,hr1,hl2,hs6,hr7,hr8,hs12.imp hs hk⟩
def a1l:Ty B5:=b0z.all
def b35:Ty B5:=b3Z a1l
theorem b2o:a1l=b35:=b0z.all_eq fun⟨a3,n4,c5,a9,n10,c11,e,hr1,hl2,hs6,hr7,hr8,hs12⟩=>
 let ⟨N,hN⟩:=b0z.slice_bound hs12
 ⟨N,a3,n4,c5,a9,n10,c11,e,hr1,hl2,hs6,hr7,hr8,hN⟩
theorem a0H {K:C7}{v:Value}{x:B5}(h:a1l.rel K v x):b35.rel K v x:=b2o▸h
structure a0V where
 field_:Bool
 leastWords_:Int
 mostWords_:Int
 low_:Int
 high_:Int
 ranged_:Bool
 leastKids_:Int
 mostKids_:Int
structure J8 where
 c_:o0
 s_:A2
structure a5K where
 Up:Int
 Down:Int
structure a71 where
 Doc:Int
 Points:Int
def b2i:Ty a71 where
 size:=2
 agg:=true
 rel:=fun K v x=>v= .agg #[.int .i64 x.Doc,.int .i64 x.Points]∧j5 x.Doc∧j5 x.Points
 mono:=fun _ _ _ h=>h
 shape:=by rintro K v x ⟨rfl,_,_⟩;exact .inl ⟨rfl,_,rfl⟩
 size_eq:=by rintro K v x ⟨rfl,_,_⟩;rfl
 ones:=by rintro K v x ⟨rfl,_,_⟩;simp [Value.cells,Value.oneCell']
end Go.Fk
