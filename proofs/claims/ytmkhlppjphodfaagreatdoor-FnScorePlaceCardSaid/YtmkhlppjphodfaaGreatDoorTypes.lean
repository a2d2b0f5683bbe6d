/-
  Plain data of the program's struct types, and how they lie in memory. Printed by gen.py.
-/
import Derived.Test.YtmkhlppjphodfaaGreatDoorCoreU
import Derived.Test.YtmkhlppjphodfaaGreatDoorCoreN
import Derived.Test.YtmkhlppjphodfaaGreatDoorCoreO
import Derived.Test.YtmkhlppjphodfaaGreatDoorCoreZ
namespace Go.Fk
open Go
structure u5 where
 b_ : List UInt8
 p_ : Int
structure Q0 where
 From : List k6
 To : k6
def I4 : Ty Q0 where
 size := 2
 agg := true
 rel := fun K v x => ∃ (a1 : Option Addr) (n2 c3 : Nat), v = .agg #[.slice a1 n2 c3, sv x.To] ∧ b7 B8 K a1 n2 c3 x.From ∧ x.To.length ≤ maxLen
 mono := fun h _ _ ⟨a1, n2, c3, e, hs4, hl5⟩ => ⟨a1, n2, c3, e, hs4.mono h, hl5⟩
 shape := by rintro K v x ⟨a1, n2, c3, rfl, _, _⟩; exact .inl ⟨rfl, _, rfl⟩
 size_eq := by rintro K v x ⟨a1, n2, c3, rfl, _, _⟩; rfl
 ones := by rintro K v x ⟨a1, n2, c3, rfl, _, _⟩; simp [Value.cells, Value.oneCell', sv]
structure q9 where
 Stops : List k6
 Syns : List Q0
structure I5 where
 Name : k6
 Text : k6
def F3 : Ty I5 where
 size := 2
 agg := true
 rel := fun K v x => v = .agg #[sv x.Name, sv x.Text] ∧ x.Name.length ≤ maxLen ∧ x.Text.length ≤ maxLen
 mono := fun _ _ _ h => h
 shape := by rintro K v x ⟨rfl, _, _⟩; exact .inl ⟨rfl, _, rfl⟩
 size_eq := by rintro K v x ⟨rfl, _, _⟩; rfl
 ones := by rintro K v x ⟨rfl, _, _⟩; simp [Value.cells, Value.oneCell', sv]
structure a2r where
 Name : k6
 Num : Int
def G5 : Ty a2r where
 size := 2
 agg := true
 rel := fun K v x => v = .agg #[sv x.Name, .int .i64 x.Num] ∧ x.Name.length ≤ maxLen ∧ d9 x.Num
 mono := fun _ _ _ h => h
 shape := by rintro K v x ⟨rfl, _, _⟩; exact .inl ⟨rfl, _, rfl⟩
 size_eq := by rintro K v x ⟨rfl, _, _⟩; rfl
 ones := by rintro K v x ⟨rfl, _, _⟩; simp [Value.cells, Value.oneCell', sv]
structure s7 where
 Id : Int
 Fields : List I5
 Nums : List a2r
def E1 : Ty s7 where
 size := 3
 agg := true
 rel := fun K v x => ∃ (a2 : Option Addr) (n3 c4 : Nat) (a6 : Option Addr) (n7 c8 : Nat), v = .agg #[.int .i64 x.Id, .slice a2 n3 c4, .slice a6 n7 c8] ∧ d9 x.Id ∧ b7 F3 K a2 n3 c4 x.Fields ∧ b7 G5 K a6 n7 c8 x.Nums
 mono := fun h _ _ ⟨a2, n3, c4, a6, n7, c8, e, hr1, hs5, hs9⟩ => ⟨a2, n3, c4, a6, n7, c8, e, hr1, hs5.mono h, hs9.mono h⟩
 shape := by rintro K v x ⟨a2, n3, c4, a6, n7, c8, rfl, _, _, _⟩; exact .inl ⟨rfl, _, rfl⟩
 size_eq := by rintro K v x ⟨a2, n3, c4, a6, n7, c8, rfl, _, _, _⟩; rfl
 ones := by rintro K v x ⟨a2, n3, c4, a6, n7, c8, rfl, _, _, _⟩; simp [Value.cells, Value.oneCell']
structure S4 where
 Text : k6
 At : Int
 From : Int
 To : Int
def a3E : Ty S4 where
 size := 4
 agg := true
 rel := fun K v x => v = .agg #[sv x.Text, .int .i64 x.At, .int .i64 x.From, .int .i64 x.To] ∧ x.Text.length ≤ maxLen ∧ d9 x.At ∧ d9 x.From ∧ d9 x.To
 mono := fun _ _ _ h => h
 shape := by rintro K v x ⟨rfl, _, _, _, _⟩; exact .inl ⟨rfl, _, rfl⟩
 size_eq := by rintro K v x ⟨rfl, _, _, _, _⟩; rfl
 ones := by rintro K v x ⟨rfl, _, _, _, _⟩; simp [Value.cells, Value.oneCell', sv]
structure y9 where
 Text : k6
 At : Int
def J7 : Ty y9 where
 size := 2
 agg := true
 rel := fun K v x => v = .agg #[sv x.Text, .int .i64 x.At] ∧ x.Text.length ≤ maxLen ∧ d9 x.At
 mono := fun _ _ _ h => h
 shape := by rintro K v x ⟨rfl, _, _⟩; exact .inl ⟨rfl, _, rfl⟩
 size_eq := by rintro K v x ⟨rfl, _, _⟩; rfl
 ones := by rintro K v x ⟨rfl, _, _⟩; simp [Value.cells, Value.oneCell', sv]
structure D5 where
 Doc : Int
 At : List Int
def S1 : Ty D5 where
 size := 2
 agg := true
 rel := fun K v x => ∃ (a2 : Option Addr) (n3 c4 : Nat), v = .agg #[.int .i64 x.Doc, .slice a2 n3 c4] ∧ d9 x.Doc ∧ b7 B7 K a2 n3 c4 x.At
 mono := fun h _ _ ⟨a2, n3, c4, e, hr1, hs5⟩ => ⟨a2, n3, c4, e, hr1, hs5.mono h⟩
 shape := by rintro K v x ⟨a2, n3, c4, rfl, _, _⟩; exact .inl ⟨rfl, _, rfl⟩
 size_eq := by rintro K v x ⟨a2, n3, c4, rfl, _, _⟩; rfl
 ones := by rintro K v x ⟨a2, n3, c4, rfl, _, _⟩; simp [Value.cells, Value.oneCell']
structure u9 where
 Field : k6
 Term : k6
 Posts : List D5
def z6 : Ty u9 where
 size := 3
 agg := true
 rel := fun K v x => ∃ (a3 : Option Addr) (n4 c5 : Nat), v = .agg #[sv x.Field, sv x.Term, .slice a3 n4 c5] ∧ x.Field.length ≤ maxLen ∧ x.Term.length ≤ maxLen ∧ b7 S1 K a3 n4 c5 x.Posts
 mono := fun h _ _ ⟨a3, n4, c5, e, hl1, hl2, hs6⟩ => ⟨a3, n4, c5, e, hl1, hl2, hs6.mono h⟩
 shape := by rintro K v x ⟨a3, n4, c5, rfl, _, _, _⟩; exact .inl ⟨rfl, _, rfl⟩
 size_eq := by rintro K v x ⟨a3, n4, c5, rfl, _, _, _⟩; rfl
 ones := by rintro K v x ⟨a3, n4, c5, rfl, _, _, _⟩; simp [Value.cells, Value.oneCell', sv]
structure z2 where
 Docs : List s7
 Entries : List u9
structure r5 where
 Kind : Int
 Field : k6
 Words : List k6
 From : Int
 To : Int
 Kids : List r5
def b3S (tk : Ty r5) : Ty r5 where
 size := 6
 agg := true
 rel := fun K v x => ∃ (a3 : Option Addr) (n4 c5 : Nat) (a9 : Option Addr) (n10 c11 : Nat), v = .agg #[.int .i64 x.Kind, sv x.Field, .slice a3 n4 c5, .int .i64 x.From, .int .i64 x.To, .slice a9 n10 c11] ∧ d9 x.Kind ∧ x.Field.length ≤ maxLen ∧ b7 B8 K a3 n4 c5 x.Words ∧ d9 x.From ∧ d9 x.To ∧ b7 tk K a9 n10 c11 x.Kids
 mono := fun h _ _ ⟨a3, n4, c5, a9, n10, c11, e, hr1, hl2, hs6, hr7, hr8, hs12⟩ => ⟨a3, n4, c5, a9, n10, c11, e, hr1, hl2, hs6.mono h, hr7, hr8, hs12.mono h⟩
 shape := by rintro K v x ⟨a3, n4, c5, a9, n10, c11, rfl, _, _, _, _, _, _⟩; exact .inl ⟨rfl, _, rfl⟩
 size_eq := by rintro K v x ⟨a3, n4, c5, a9, n10, c11, rfl, _, _, _, _, _, _⟩; rfl
 ones := by rintro K v x ⟨a3, n4, c5, a9, n10, c11, rfl, _, _, _, _, _, _⟩; simp [Value.cells, Value.oneCell', sv]
def b0T : Lay r5 where
 F := b3S
 size := 6
 agg := true
 size_F := fun _ => rfl
 agg_F := fun _ => rfl
 mono_F := fun hs hk _ _ ⟨a3, n4, c5, a9, n10, c11, e, hr1, hl2, hs6, hr7, hr8, hs12⟩ => ⟨a3, n4, c5, a9, n10, c11, e, hr1, hl2, hs6, hr7, hr8, hs12.imp hs hk⟩
def E4 : Ty r5 := b0T.all
def b1h : Ty r5 := b3S E4
theorem a7S : E4 = b1h := b0T.all_eq fun ⟨a3, n4, c5, a9, n10, c11, e, hr1, hl2, hs6, hr7, hr8, hs12⟩ =>
 let ⟨N, hN⟩ := b0T.slice_bound hs12
 ⟨N, a3, n4, c5, a9, n10, c11, e, hr1, hl2, hs6, hr7, hr8, hN⟩
theorem L4 {K : C5} {v : Value} {x : r5} (h : E4.rel K v x) : b1h.rel K v x := a7S ▸ h
structure a11 where
 field_ : Bool
 leastWords_ : Int
 mostWords_ : Int
 low_ : Int
 high_ : Int
 ranged_ : Bool
 leastKids_ : Int
 mostKids_ : Int
structure a3G where
 Up : Int
 Down : Int
structure N3 where
 c_ : q9
 s_ : z2
end Go.Fk
