/-
  The arguments of the rows read as plain data. Printed by opens.py.
-/
import Derived.Test.YtajfhpaokbgmeaaCoreM
import Derived.Test.YtajfhpaokbgmeaaTypes
import Derived.Test.YtajfhpaokbgmeaaChecked
import Derived.KernelRfl
set_option linter.unusedVariables false
namespace Go.Proofs.Ytajfhpaokbgmeaa
open Go Go.Fk
section
variable {H : Type} {enc : TypeId × Value → H} {W : World}
theorem opens_t130 : Opens enc Try.prog W 130 tGFile := fun fuel cs x h => by
  obtain ⟨xs, n, _, _, hl, hlen, hf⟩ := DataW.trod_struct Try.underlying130 h
  rw [show Try.prog.cellsOf 130 = 2 from by kernel_rfl] at hl
  obtain ⟨y0, y1, rfl⟩ : ∃ y0 y1, xs = [y0, y1] := by
    match xs, hlen with
    | [z0, z1], _ => exact ⟨z0, z1, rfl⟩
  obtain ⟨u0, x0, e0, r0⟩ := (opens_str Try.underlying9) _ _ _ (hf 0 _ rfl)
  have e0 : u0.cells.toList = (cs.drop 0).take 1 := e0.trans (congrArg (fun k => (cs.drop 0).take k) (by kernel_rfl : Try.prog.cellsOf 9 = 1))
  obtain ⟨rfl, hl1⟩ := r0
  obtain ⟨u1, x1, e1, r1⟩ := (opens_str Try.underlying9) _ _ _ (hf 1 _ rfl)
  have e1 : u1.cells.toList = (cs.drop 1).take 1 := e1.trans (congrArg (fun k => (cs.drop 1).take k) (by kernel_rfl : Try.prog.cellsOf 9 = 1))
  obtain ⟨rfl, hl2⟩ := r1
  have e0 : ([sv x0] : List Value) = (cs.drop 0).take 1 := e0
  have e1 : ([sv x1] : List Value) = (cs.drop 1).take 1 := e1
  have hcs : cs = ([sv x0] : List Value) ++ (([sv x1] : List Value) ++ ([])) := by
    have g : cs = cs.drop 0 := rfl
    have g2 : cs.drop 2 = [] := List.drop_eq_nil_of_le (by omega)
    have g1 : cs.drop 1 = ([sv x1] : List Value) ++ ([]) := by rw [take_drop_cut cs 1 1, ← e1]; exact congrArg _ g2
    have g0 : cs.drop 0 = ([sv x0] : List Value) ++ (([sv x1] : List Value) ++ ([])) := by rw [take_drop_cut cs 0 1, ← e0]; exact congrArg _ g1
    exact g0
  exact ⟨.agg #[sv x0, sv x1], ⟨x0, x1⟩, hcs.symm, ⟨rfl, hl1, hl2⟩⟩

theorem opens_t22 : Opens enc Try.prog W 22 (tSlice tGFile) := opens_slice (e := 130) Try.underlying22 (by kernel_rfl) (by decide) opens_t130

theorem opens_t24 : Opens enc Try.prog W 24 tGDisk := fun fuel cs x h => by
  obtain ⟨xs, n, _, _, hl, hlen, hf⟩ := DataW.trod_struct Try.underlying24 h
  rw [show Try.prog.cellsOf 24 = 1 from by kernel_rfl] at hl
  obtain ⟨y0, rfl⟩ : ∃ y0, xs = [y0] := by
    match xs, hlen with
    | [z0], _ => exact ⟨z0, rfl⟩
  obtain ⟨u0, x0, e0, r0⟩ := opens_t22 _ _ _ (hf 0 _ rfl)
  have e0 : u0.cells.toList = (cs.drop 0).take 1 := e0.trans (congrArg (fun k => (cs.drop 0).take k) (by kernel_rfl : Try.prog.cellsOf 22 = 1))
  obtain ⟨a1, n2, c3, rfl, hs4⟩ := r0
  have e0 : ([.slice a1 n2 c3] : List Value) = (cs.drop 0).take 1 := e0
  have hcs : cs = ([.slice a1 n2 c3] : List Value) ++ ([]) := by
    have g : cs = cs.drop 0 := rfl
    have g1 : cs.drop 1 = [] := List.drop_eq_nil_of_le (by omega)
    have g0 : cs.drop 0 = ([.slice a1 n2 c3] : List Value) ++ ([]) := by rw [take_drop_cut cs 0 1, ← e0]; exact congrArg _ g1
    exact g0
  exact ⟨.agg #[.slice a1 n2 c3], ⟨x0⟩, hcs.symm, ⟨a1, n2, c3, rfl, hs4⟩⟩
end
end Go.Proofs.Ytajfhpaokbgmeaa
