/-
  Plain data of the program's struct types, and how they lie in memory. Printed by gen.py.
-/
import Derived.Test.YtajfhpaokbgmeaaCoreK
namespace Go.Fk
open Go

structure GL30Rd where
  b_ : List UInt8
  p_ : Int

def tGL30Rd : Ty GL30Rd where
  size := 2
  agg := true
  rel := fun K v x => ∃ (a1 : Option Addr) (n2 c3 : Nat), v = .agg #[.slice a1 n2 c3, .int .i64 x.p_] ∧ SliceAt tU8 K a1 n2 c3 x.b_ ∧ rng64 x.p_
  mono := fun h _ _ ⟨a1, n2, c3, e, hs4, hr5⟩ => ⟨a1, n2, c3, e, hs4.mono h, hr5⟩
  shape := by rintro K v x ⟨a1, n2, c3, rfl, _, _⟩; exact .inl ⟨rfl, _, rfl⟩
  size_eq := by rintro K v x ⟨a1, n2, c3, rfl, _, _⟩; rfl
  ones := by rintro K v x ⟨a1, n2, c3, rfl, _, _⟩; simp [Value.cells, Value.oneCell']

structure GHit where
  Doc : Int
  Points : Int

def tGHit : Ty GHit where
  size := 2
  agg := true
  rel := fun K v x => v = .agg #[.int .i64 x.Doc, .int .i64 x.Points] ∧ rng64 x.Doc ∧ rng64 x.Points
  mono := fun _ _ _ h => h
  shape := by rintro K v x ⟨rfl, _, _⟩; exact .inl ⟨rfl, _, rfl⟩
  size_eq := by rintro K v x ⟨rfl, _, _⟩; rfl
  ones := by rintro K v x ⟨rfl, _, _⟩; simp [Value.cells, Value.oneCell']

end Go.Fk
