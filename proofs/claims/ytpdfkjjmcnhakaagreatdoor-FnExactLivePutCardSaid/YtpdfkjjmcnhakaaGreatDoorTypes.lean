/-
  Plain data of the program's struct types, and how they lie in memory. Printed by gen.py.
-/
import Derived.Test.YtpdfkjjmcnhakaaGreatDoorCoreMR
namespace Go.Fk
open Go
structure GSyn where
 From:List Str
 To:Str
def tGSyn:Ty GSyn where
 size:=2
 agg:=true
 rel:=fun K v x=>∃(a1:Option Addr) (n2 c3:Nat),v= .agg #[.slice a1 n2 c3,sv x.To]∧SliceAt tStr K a1 n2 c3 x.From∧x.To.length≤maxLen
 mono:=fun h _ _ ⟨a1,n2,c3,e,hs4,hl5⟩=>⟨a1,n2,c3,e,hs4.mono h,hl5⟩
 shape:=by rintro K v x ⟨a1,n2,c3,rfl,_,_⟩;exact .inl ⟨rfl,_,rfl⟩
 size_eq:=by rintro K v x ⟨a1,n2,c3,rfl,_,_⟩;rfl
 ones:=by rintro K v x ⟨a1,n2,c3,rfl,_,_⟩;simp [Value.cells,Value.oneCell',sv]
structure GConf where
 Stops:List Str
 Syns:List GSyn
def tGConf:Ty GConf where
 size:=2
 agg:=true
 rel:=fun K v x=>∃(a1:Option Addr) (n2 c3:Nat) (a5:Option Addr) (n6 c7:Nat),v= .agg #[.slice a1 n2 c3,.slice a5 n6 c7]∧SliceAt tStr K a1 n2 c3 x.Stops∧SliceAt tGSyn K a5 n6 c7 x.Syns
 mono:=fun h _ _ ⟨a1,n2,c3,a5,n6,c7,e,hs4,hs8⟩=>⟨a1,n2,c3,a5,n6,c7,e,hs4.mono h,hs8.mono h⟩
 shape:=by rintro K v x ⟨a1,n2,c3,a5,n6,c7,rfl,_,_⟩;exact .inl ⟨rfl,_,rfl⟩
 size_eq:=by rintro K v x ⟨a1,n2,c3,a5,n6,c7,rfl,_,_⟩;rfl
 ones:=by rintro K v x ⟨a1,n2,c3,a5,n6,c7,rfl,_,_⟩;simp [Value.cells,Value.oneCell']
structure GField where
 Name:Str
 Text:Str
def tGField:Ty GField where
 size:=2
 agg:=true
 rel:=fun K v x=>v= .agg #[sv x.Name,sv x.Text]∧x.Name.length≤maxLen∧x.Text.length≤maxLen
 mono:=fun _ _ _ h=>h
 shape:=by rintro K v x ⟨rfl,_,_⟩;exact .inl ⟨rfl,_,rfl⟩
 size_eq:=by rintro K v x ⟨rfl,_,_⟩;rfl
 ones:=by rintro K v x ⟨rfl,_,_⟩;simp [Value.cells,Value.oneCell',sv]
structure GAttr where
 Name:Str
 Num:Int
def tGAttr:Ty GAttr where
 size:=2
 agg:=true
 rel:=fun K v x=>v= .agg #[sv x.Name,.int .i64 x.Num]∧x.Name.length≤maxLen∧rng64 x.Num
 mono:=fun _ _ _ h=>h
 shape:=by rintro K v x ⟨rfl,_,_⟩;exact .inl ⟨rfl,_,rfl⟩
 size_eq:=by rintro K v x ⟨rfl,_,_⟩;rfl
 ones:=by rintro K v x ⟨rfl,_,_⟩;simp [Value.cells,Value.oneCell',sv]
structure GDoc where
 Id:Int
 Fields:List GField
 Nums:List GAttr
def tGDoc:Ty GDoc where
 size:=3
 agg:=true
 rel:=fun K v x=>∃(a2:Option Addr) (n3 c4:Nat) (a6:Option Addr) (n7 c8:Nat),v= .agg #[.int .i64 x.Id,.slice a2 n3 c4,.slice a6 n7 c8]∧rng64 x.Id∧SliceAt tGField K a2 n3 c4 x.Fields∧SliceAt tGAttr K a6 n7 c8 x.Nums
 mono:=fun h _ _ ⟨a2,n3,c4,a6,n7,c8,e,hr1,hs5,hs9⟩=>⟨a2,n3,c4,a6,n7,c8,e,hr1,hs5.mono h,hs9.mono h⟩
 shape:=by rintro K v x ⟨a2,n3,c4,a6,n7,c8,rfl,_,_,_⟩;exact .inl ⟨rfl,_,rfl⟩
 size_eq:=by rintro K v x ⟨a2,n3,c4,a6,n7,c8,rfl,_,_,_⟩;rfl
 ones:=by rintro K v x ⟨a2,n3,c4,a6,n7,c8,rfl,_,_,_⟩;simp [Value.cells,Value.oneCell']
structure GPost where
 Doc:Int
 At:List Int
def tGPost:Ty GPost where
 size:=2
 agg:=true
 rel:=fun K v x=>∃(a2:Option Addr) (n3 c4:Nat),v= .agg #[.int .i64 x.Doc,.slice a2 n3 c4]∧rng64 x.Doc∧SliceAt tInt K a2 n3 c4 x.At
 mono:=fun h _ _ ⟨a2,n3,c4,e,hr1,hs5⟩=>⟨a2,n3,c4,e,hr1,hs5.mono h⟩
 shape:=by rintro K v x ⟨a2,n3,c4,rfl,_,_⟩;exact .inl ⟨rfl,_,rfl⟩
 size_eq:=by rintro K v x ⟨a2,n3,c4,rfl,_,_⟩;rfl
 ones:=by rintro K v x ⟨a2,n3,c4,rfl,_,_⟩;simp [Value.cells,Value.oneCell']
structure GEntry where
 Field:Str
 Term:Str
 Posts:List GPost
def tGEntry:Ty GEntry where
 size:=3
 agg:=true
 rel:=fun K v x=>∃(a3:Option Addr) (n4 c5:Nat),v= .agg #[sv x.Field,sv x.Term,.slice a3 n4 c5]∧x.Field.length≤maxLen∧x.Term.length≤maxLen∧SliceAt tGPost K a3 n4 c5 x.Posts
 mono:=fun h _ _ ⟨a3,n4,c5,e,hl1,hl2,hs6⟩=>⟨a3,n4,c5,e,hl1,hl2,hs6.mono h⟩
 shape:=by rintro K v x ⟨a3,n4,c5,rfl,_,_,_⟩;exact .inl ⟨rfl,_,rfl⟩
 size_eq:=by rintro K v x ⟨a3,n4,c5,rfl,_,_,_⟩;rfl
 ones:=by rintro K v x ⟨a3,n4,c5,rfl,_,_,_⟩;simp [Value.cells,Value.oneCell',sv]
structure GSeg where
 Docs:List GDoc
 Entries:List GEntry
def tGSeg:Ty GSeg where
 size:=2
 agg:=true
 rel:=fun K v x=>∃(a1:Option Addr) (n2 c3:Nat) (a5:Option Addr) (n6 c7:Nat),v= .agg #[.slice a1 n2 c3,.slice a5 n6 c7]∧SliceAt tGDoc K a1 n2 c3 x.Docs∧SliceAt tGEntry K a5 n6 c7 x.Entries
 mono:=fun h _ _ ⟨a1,n2,c3,a5,n6,c7,e,hs4,hs8⟩=>⟨a1,n2,c3,a5,n6,c7,e,hs4.mono h,hs8.mono h⟩
 shape:=by rintro K v x ⟨a1,n2,c3,a5,n6,c7,rfl,_,_⟩;exact .inl ⟨rfl,_,rfl⟩
 size_eq:=by rintro K v x ⟨a1,n2,c3,a5,n6,c7,rfl,_,_⟩;rfl
 ones:=by rintro K v x ⟨a1,n2,c3,a5,n6,c7,rfl,_,_⟩;simp [Value.cells,Value.oneCell']
structure GLive where
 Seg:GSeg
 Dead:List Int
def tGLive:Ty GLive where
 size:=3
 agg:=true
 rel:=fun K v x=>∃(a1:Option Addr) (n2 c3:Nat) (a5:Option Addr) (n6 c7:Nat) (a9:Option Addr) (n10 c11:Nat),v= .agg #[.slice a1 n2 c3,.slice a5 n6 c7,.slice a9 n10 c11]∧SliceAt tGDoc K a1 n2 c3 x.Seg.Docs∧SliceAt tGEntry K a5 n6 c7 x.Seg.Entries∧SliceAt tInt K a9 n10 c11 x.Dead
 mono:=fun h _ _ ⟨a1,n2,c3,a5,n6,c7,a9,n10,c11,e,hs4,hs8,hs12⟩=>⟨a1,n2,c3,a5,n6,c7,a9,n10,c11,e,hs4.mono h,hs8.mono h,hs12.mono h⟩
 shape:=by rintro K v x ⟨a1,n2,c3,a5,n6,c7,a9,n10,c11,rfl,_,_,_⟩;exact .inl ⟨rfl,_,rfl⟩
 size_eq:=by rintro K v x ⟨a1,n2,c3,a5,n6,c7,a9,n10,c11,rfl,_,_,_⟩;rfl
 ones:=by rintro K v x ⟨a1,n2,c3,a5,n6,c7,a9,n10,c11,rfl,_,_,_⟩;simp [Value.cells,Value.oneCell']
structure GWord where
 Text:Str
 At:Int
 From:Int
 To:Int
def tGWord:Ty GWord where
 size:=4
 agg:=true
 rel:=fun K v x=>v= .agg #[sv x.Text,.int .i64 x.At,.int .i64 x.From,.int .i64 x.To]∧x.Text.length≤maxLen∧rng64 x.At∧rng64 x.From∧rng64 x.To
 mono:=fun _ _ _ h=>h
 shape:=by rintro K v x ⟨rfl,_,_,_,_⟩;exact .inl ⟨rfl,_,rfl⟩
 size_eq:=by rintro K v x ⟨rfl,_,_,_,_⟩;rfl
 ones:=by rintro K v x ⟨rfl,_,_,_,_⟩;simp [Value.cells,Value.oneCell',sv]
structure GTerm where
 Text:Str
 At:Int
def tGTerm:Ty GTerm where
 size:=2
 agg:=true
 rel:=fun K v x=>v= .agg #[sv x.Text,.int .i64 x.At]∧x.Text.length≤maxLen∧rng64 x.At
 mono:=fun _ _ _ h=>h
 shape:=by rintro K v x ⟨rfl,_,_⟩;exact .inl ⟨rfl,_,rfl⟩
 size_eq:=by rintro K v x ⟨rfl,_,_⟩;rfl
 ones:=by rintro K v x ⟨rfl,_,_⟩;simp [Value.cells,Value.oneCell',sv]
structure GIndex where
 Conf:GConf
 Segs:List GLive
end Go.Fk
