/-
  Plain data of the program's struct types, and how they lie in memory. Printed by gen.py.
-/
import Derived.Test.YtnloenhmkdpgeaaGreatDoorCoreMZ
namespace Go.Fk
open Go
structure Z0 where
 From:List r4
 To:r4
def L0:Ty Z0 where
 size:=2
 agg:=true
 rel:=fun K v x=>∃(a1:Option Addr) (n2 c3:Nat),v= .agg #[.slice a1 n2 c3,sv x.To]∧b7 D9 K a1 n2 c3 x.From∧x.To.length≤maxLen
 mono:=fun h _ _ ⟨a1,n2,c3,e,hs4,hl5⟩=>⟨a1,n2,c3,e,hs4.mono h,hl5⟩
 shape:=by rintro K v x ⟨a1,n2,c3,rfl,_,_⟩;exact .inl ⟨rfl,_,rfl⟩
 size_eq:=by rintro K v x ⟨a1,n2,c3,rfl,_,_⟩;rfl
 ones:=by rintro K v x ⟨a1,n2,c3,rfl,_,_⟩;simp [Value.cells,Value.oneCell',sv]
structure u6 where
 Stops:List r4
 Syns:List Z0
structure Q6 where
 Name:r4
 Text:r4
def K5:Ty Q6 where
 size:=2
 agg:=true
 rel:=fun K v x=>v= .agg #[sv x.Name,sv x.Text]∧x.Name.length≤maxLen∧x.Text.length≤maxLen
 mono:=fun _ _ _ h=>h
 shape:=by rintro K v x ⟨rfl,_,_⟩;exact .inl ⟨rfl,_,rfl⟩
 size_eq:=by rintro K v x ⟨rfl,_,_⟩;rfl
 ones:=by rintro K v x ⟨rfl,_,_⟩;simp [Value.cells,Value.oneCell',sv]
structure a5j where
 Name:r4
 Num:Int
def N0:Ty a5j where
 size:=2
 agg:=true
 rel:=fun K v x=>v= .agg #[sv x.Name,.int .i64 x.Num]∧x.Name.length≤maxLen∧i7 x.Num
 mono:=fun _ _ _ h=>h
 shape:=by rintro K v x ⟨rfl,_,_⟩;exact .inl ⟨rfl,_,rfl⟩
 size_eq:=by rintro K v x ⟨rfl,_,_⟩;rfl
 ones:=by rintro K v x ⟨rfl,_,_⟩;simp [Value.cells,Value.oneCell',sv]
structure A1 where
 Id:Int
 Fields:List Q6
 Nums:List a5j
def F6:Ty A1 where
 size:=3
 agg:=true
 rel:=fun K v x=>∃(a2:Option Addr) (n3 c4:Nat) (a6:Option Addr) (n7 c8:Nat),v= .agg #[.int .i64 x.Id,.slice a2 n3 c4,.slice a6 n7 c8]∧i7 x.Id∧b7 K5 K a2 n3 c4 x.Fields∧b7 N0 K a6 n7 c8 x.Nums
 mono:=fun h _ _ ⟨a2,n3,c4,a6,n7,c8,e,hr1,hs5,hs9⟩=>⟨a2,n3,c4,a6,n7,c8,e,hr1,hs5.mono h,hs9.mono h⟩
 shape:=by rintro K v x ⟨a2,n3,c4,a6,n7,c8,rfl,_,_,_⟩;exact .inl ⟨rfl,_,rfl⟩
 size_eq:=by rintro K v x ⟨a2,n3,c4,a6,n7,c8,rfl,_,_,_⟩;rfl
 ones:=by rintro K v x ⟨a2,n3,c4,a6,n7,c8,rfl,_,_,_⟩;simp [Value.cells,Value.oneCell']
structure a0g where
 Text:r4
 At:Int
 From:Int
 To:Int
def a6K:Ty a0g where
 size:=4
 agg:=true
 rel:=fun K v x=>v= .agg #[sv x.Text,.int .i64 x.At,.int .i64 x.From,.int .i64 x.To]∧x.Text.length≤maxLen∧i7 x.At∧i7 x.From∧i7 x.To
 mono:=fun _ _ _ h=>h
 shape:=by rintro K v x ⟨rfl,_,_,_,_⟩;exact .inl ⟨rfl,_,rfl⟩
 size_eq:=by rintro K v x ⟨rfl,_,_,_,_⟩;rfl
 ones:=by rintro K v x ⟨rfl,_,_,_,_⟩;simp [Value.cells,Value.oneCell',sv]
structure D3 where
 Text:r4
 At:Int
def S3:Ty D3 where
 size:=2
 agg:=true
 rel:=fun K v x=>v= .agg #[sv x.Text,.int .i64 x.At]∧x.Text.length≤maxLen∧i7 x.At
 mono:=fun _ _ _ h=>h
 shape:=by rintro K v x ⟨rfl,_,_⟩;exact .inl ⟨rfl,_,rfl⟩
 size_eq:=by rintro K v x ⟨rfl,_,_⟩;rfl
 ones:=by rintro K v x ⟨rfl,_,_⟩;simp [Value.cells,Value.oneCell',sv]
structure F7 where
 Doc:Int
 At:List Int
def S2:Ty F7 where
 size:=2
 agg:=true
 rel:=fun K v x=>∃(a2:Option Addr) (n3 c4:Nat),v= .agg #[.int .i64 x.Doc,.slice a2 n3 c4]∧i7 x.Doc∧b7 D6 K a2 n3 c4 x.At
 mono:=fun h _ _ ⟨a2,n3,c4,e,hr1,hs5⟩=>⟨a2,n3,c4,e,hr1,hs5.mono h⟩
 shape:=by rintro K v x ⟨a2,n3,c4,rfl,_,_⟩;exact .inl ⟨rfl,_,rfl⟩
 size_eq:=by rintro K v x ⟨a2,n3,c4,rfl,_,_⟩;rfl
 ones:=by rintro K v x ⟨a2,n3,c4,rfl,_,_⟩;simp [Value.cells,Value.oneCell']
structure C0 where
 Field:r4
 Term:r4
 Posts:List F7
def B8:Ty C0 where
 size:=3
 agg:=true
 rel:=fun K v x=>∃(a3:Option Addr) (n4 c5:Nat),v= .agg #[sv x.Field,sv x.Term,.slice a3 n4 c5]∧x.Field.length≤maxLen∧x.Term.length≤maxLen∧b7 S2 K a3 n4 c5 x.Posts
 mono:=fun h _ _ ⟨a3,n4,c5,e,hl1,hl2,hs6⟩=>⟨a3,n4,c5,e,hl1,hl2,hs6.mono h⟩
 shape:=by rintro K v x ⟨a3,n4,c5,rfl,_,_,_⟩;exact .inl ⟨rfl,_,rfl⟩
 size_eq:=by rintro K v x ⟨a3,n4,c5,rfl,_,_,_⟩;rfl
 ones:=by rintro K v x ⟨a3,n4,c5,rfl,_,_,_⟩;simp [Value.cells,Value.oneCell',sv]
structure A5 where
 Docs:List A1
 Entries:List C0
structure E3 where
 Doc:Int
 Points:Int
def Q0:Ty E3 where
 size:=2
 agg:=true
 rel:=fun K v x=>v= .agg #[.int .i64 x.Doc,.int .i64 x.Points]∧i7 x.Doc∧i7 x.Points
 mono:=fun _ _ _ h=>h
 shape:=by rintro K v x ⟨rfl,_,_⟩;exact .inl ⟨rfl,_,rfl⟩
 size_eq:=by rintro K v x ⟨rfl,_,_⟩;rfl
 ones:=by rintro K v x ⟨rfl,_,_⟩;simp [Value.cells,Value.oneCell']
structure q7 where
 Kind:Int
 Field:r4
 Words:List r4
 From:Int
 To:Int
 Kids:List q7
def b9B (tk:Ty q7):Ty q7 where
 size:=6
 agg:=true
 rel:=fun K v x=>∃(a3:Option Addr) (n4 c5:Nat) (a9:Option Addr) (n10 c11:Nat),v= .agg #[.int .i64 x.Kind,sv x.Field,.slice a3 n4 c5,.int .i64 x.From,.int .i64 x.To,.slice a9 n10 c11]∧i7 x.Kind∧x.Field.length≤maxLen∧b7 D9 K a3 n4 c5 x.Words∧i7 x.From∧i7 x.To∧b7 tk K a9 n10 c11 x.Kids
 mono:=fun h _ _ ⟨a3,n4,c5,a9,n10,c11,e,hr1,hl2,hs6,hr7,hr8,hs12⟩=>⟨a3,n4,c5,a9,n10,c11,e,hr1,hl2,hs6.mono h,hr7,hr8,hs12.mono h⟩
 shape:=by rintro K v x ⟨a3,n4,c5,a9,n10,c11,rfl,_,_,_,_,_,_⟩;exact .inl ⟨rfl,_,rfl⟩
 size_eq:=by rintro K v x ⟨a3,n4,c5,a9,n10,c11,rfl,_,_,_,_,_,_⟩;rfl
 ones:=by rintro K v x ⟨a3,n4,c5,a9,n10,c11,rfl,_,_,_,_,_,_⟩;simp [Value.cells,Value.oneCell',sv]
def b5N:Lay q7 where
 F:=b9B
 size:=6
 agg:=true
 size_F:=fun _=>rfl
 agg_F:=fun _=>rfl
 mono_F:=fun hs hk _ _ ⟨a3,n4,c5,a9,n10,c11,e,hr1,hl2,hs6,hr7,hr8,hs12⟩=>⟨a3,n4,c5,a9,n10,c11,e,hr1,hl2,hs6,hr7,hr8,hs12.imp hs hk⟩
def F4:Ty q7:=b5N.all
def b6c:Ty q7:=b9B F4
theorem b2k:F4=b6c:=b5N.all_eq fun⟨a3,n4,c5,a9,n10,c11,e,hr1,hl2,hs6,hr7,hr8,hs12⟩=>
 let ⟨N,hN⟩:=b5N.slice_bound hs12
 ⟨N,a3,n4,c5,a9,n10,c11,e,hr1,hl2,hs6,hr7,hr8,hN⟩
theorem S9 {K:F9}{v:Value}{x:q7}(h:F4.rel K v x):b6c.rel K v x:=b2k▸h
theorem M4 {K:F9}{v:Value}{x:q7}(h:b6c.rel K v x):F4.rel K v x:=b2k▸h
structure N3 where
 field_:Bool
 leastWords_:Int
 mostWords_:Int
 low_:Int
 high_:Int
 ranged_:Bool
 leastKids_:Int
 mostKids_:Int
structure a6l where
 Up:Int
 Down:Int
structure T0 where
 c_:u6
 s_:A5
structure z7 where
 b_:List UInt8
 p_:Int
end Go.Fk
