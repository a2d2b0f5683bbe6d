/-
  Plain data of the program's struct types, and how they lie in memory. Printed by gen.py.
-/
import Derived.Test.YtajfhpaokbgmeaaCoreK
namespace Go.Fk
open Go

structure GFile where
  Name : Str
  Text : Str

def tGFile : Ty GFile where
  size := 2
  agg := true
  rel := fun K v x => v = .agg #[sv x.Name, sv x.Text] ∧ x.Name.length ≤ maxLen ∧ x.Text.length ≤ maxLen
  mono := fun _ _ _ h => h
  shape := by rintro K v x ⟨rfl, _, _⟩; exact .inl ⟨rfl, _, rfl⟩
  size_eq := by rintro K v x ⟨rfl, _, _⟩; rfl
  ones := by rintro K v x ⟨rfl, _, _⟩; simp [Value.cells, Value.oneCell', sv]

structure GDisk where
  Files : List GFile

def tGDisk : Ty GDisk where
  size := 1
  agg := true
  rel := fun K v x => ∃ (a1 : Option Addr) (n2 c3 : Nat), v = .agg #[.slice a1 n2 c3] ∧ SliceAt tGFile K a1 n2 c3 x.Files
  mono := fun h _ _ ⟨a1, n2, c3, e, hs4⟩ => ⟨a1, n2, c3, e, hs4.mono h⟩
  shape := by rintro K v x ⟨a1, n2, c3, rfl, _⟩; exact .inl ⟨rfl, _, rfl⟩
  size_eq := by rintro K v x ⟨a1, n2, c3, rfl, _⟩; rfl
  ones := by rintro K v x ⟨a1, n2, c3, rfl, _⟩; simp [Value.cells, Value.oneCell']

end Go.Fk
