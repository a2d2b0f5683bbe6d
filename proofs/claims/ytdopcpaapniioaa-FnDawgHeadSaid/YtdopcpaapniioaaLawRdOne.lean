/-
  A number out of some, drawn. Of no program.
-/
import Derived.Test.YtdopcpaapniioaaLawRd
namespace Go.Fk
open Go

theorem one_ok (F : Nat) (r : GL30Rd) (l : List Int) (hr : RdOk r) (hl : l ≠ []) : ∃ s ∈ l, M.spec_l30Rd_one F r l = some (s, ⟨r.b_, r.p_ + 1⟩) := by
  unfold M.spec_l30Rd_one
  have hpos : 0 < l.length := List.length_pos_iff.2 hl
  obtain ⟨x, hx, x0, x1⟩ := pick_ok F r (l.length : Int) hr
  have x1 := x1 (by omega)
  rw [hx, Option.bind_some]
  unfold getI
  rw [if_pos x0, List.getElem?_eq_getElem (show x.toNat < l.length by omega)]
  exact ⟨_, List.getElem_mem _, rfl⟩
end Go.Fk
