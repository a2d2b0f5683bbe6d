/-
  Plain data of the program's struct types, and how they lie in memory. Printed by gen.py.
-/
import Derived.Test.YtdopcpaapniioaaCoreK
namespace Go.Fk
open Go

structure GArc where
  Byte : UInt8
  To : Int

def tGArc : Ty GArc where
  size := 2
  agg := true
  rel := fun K v x => v = .agg #[iv8 x.Byte, .int .i64 x.To] ∧ rng64 x.To
  mono := fun _ _ _ h => h
  shape := by rintro K v x ⟨rfl, _⟩; exact .inl ⟨rfl, _, rfl⟩
  size_eq := by rintro K v x ⟨rfl, _⟩; rfl
  ones := by rintro K v x ⟨rfl, _⟩; simp [Value.cells, Value.oneCell', iv8]

structure GState where
  Final : Bool
  Many : Int
  Arcs : List GArc

def tGState : Ty GState where
  size := 3
  agg := true
  rel := fun K v x => ∃ (a2 : Option Addr) (n3 c4 : Nat), v = .agg #[.bool x.Final, .int .i64 x.Many, .slice a2 n3 c4] ∧ rng64 x.Many ∧ SliceAt tGArc K a2 n3 c4 x.Arcs
  mono := fun h _ _ ⟨a2, n3, c4, e, hr1, hs5⟩ => ⟨a2, n3, c4, e, hr1, hs5.mono h⟩
  shape := by rintro K v x ⟨a2, n3, c4, rfl, _, _⟩; exact .inl ⟨rfl, _, rfl⟩
  size_eq := by rintro K v x ⟨a2, n3, c4, rfl, _, _⟩; rfl
  ones := by rintro K v x ⟨a2, n3, c4, rfl, _, _⟩; simp [Value.cells, Value.oneCell']

structure GDawg where
  states_ : List GState

def tGDawg : Ty GDawg where
  size := 1
  agg := true
  rel := fun K v x => ∃ (a1 : Option Addr) (n2 c3 : Nat), v = .agg #[.slice a1 n2 c3] ∧ SliceAt tGState K a1 n2 c3 x.states_
  mono := fun h _ _ ⟨a1, n2, c3, e, hs4⟩ => ⟨a1, n2, c3, e, hs4.mono h⟩
  shape := by rintro K v x ⟨a1, n2, c3, rfl, _⟩; exact .inl ⟨rfl, _, rfl⟩
  size_eq := by rintro K v x ⟨a1, n2, c3, rfl, _⟩; rfl
  ones := by rintro K v x ⟨a1, n2, c3, rfl, _⟩; simp [Value.cells, Value.oneCell']

structure GLister where
  d_ : List GState
  words_ : List Str
  steps_ : Int
  bad_ : Bool

def tGLister : Ty GLister where
  size := 4
  agg := true
  rel := fun K v x => ∃ (a1 : Option Addr) (n2 c3 : Nat) (a5 : Option Addr) (n6 c7 : Nat), v = .agg #[.slice a1 n2 c3, .slice a5 n6 c7, .int .i64 x.steps_, .bool x.bad_] ∧ SliceAt tGState K a1 n2 c3 x.d_ ∧ SliceAt tStr K a5 n6 c7 x.words_ ∧ rng64 x.steps_
  mono := fun h _ _ ⟨a1, n2, c3, a5, n6, c7, e, hs4, hs8, hr9⟩ => ⟨a1, n2, c3, a5, n6, c7, e, hs4.mono h, hs8.mono h, hr9⟩
  shape := by rintro K v x ⟨a1, n2, c3, a5, n6, c7, rfl, _, _, _⟩; exact .inl ⟨rfl, _, rfl⟩
  size_eq := by rintro K v x ⟨a1, n2, c3, a5, n6, c7, rfl, _, _, _⟩; rfl
  ones := by rintro K v x ⟨a1, n2, c3, a5, n6, c7, rfl, _, _, _⟩; simp [Value.cells, Value.oneCell']

structure GL30Rd where
  b_ : List UInt8
  p_ : Int

def tGL30Rd : Ty GL30Rd where
  size := 2
  agg := true
  rel := fun K v x => ∃ (a1 : Option Addr) (n2 c3 : Nat), v = .agg #[.slice a1 n2 c3, .int .i64 x.p_] ∧ SliceAt tU8 K a1 n2 c3 x.b_ ∧ rng64 x.p_
  mono := fun h _ _ ⟨a1, n2, c3, e, hs4, hr5⟩ => ⟨a1, n2, c3, e, hs4.mono h, hr5⟩
  shape := by rintro K v x ⟨a1, n2, c3, rfl, _, _⟩; exact .inl ⟨rfl, _, rfl⟩
  size_eq := by rintro K v x ⟨a1, n2, c3, rfl, _, _⟩; rfl
  ones := by rintro K v x ⟨a1, n2, c3, rfl, _, _⟩; simp [Value.cells, Value.oneCell']

end Go.Fk
