/-
  The arguments of the rows read as plain data. Printed by opens.py.
-/
import Derived.Test.YtdcmmhjhffcnhaaGreatCoreM
import Derived.Test.YtdcmmhjhffcnhaaGreatTypes
import Derived.Test.YtdcmmhjhffcnhaaGreatChecked
import Derived.KernelRfl
set_option linter.unusedVariables false
namespace Go.Proofs.YtdcmmhjhffcnhaaGreat
open Go Go.Fk
section
variable {H : Type} {enc : TypeId × Value → H} {W : World}
theorem opens_t23 : Opens enc Tryz.prog W 23 (tSlice tStr) := opens_slice (e := 9) Tryz.underlying23 (by kernel_rfl) (by decide) (opens_str Tryz.underlying9)

theorem opens_t154 : Opens enc Tryz.prog W 154 tGSyn := fun fuel cs x h => by
  obtain ⟨xs, n, _, _, hl, hlen, hf⟩ := DataW.trod_struct Tryz.underlying154 h
  rw [show Tryz.prog.cellsOf 154 = 2 from by kernel_rfl] at hl
  obtain ⟨y0, y1, rfl⟩ : ∃ y0 y1, xs = [y0, y1] := by
    match xs, hlen with
    | [z0, z1], _ => exact ⟨z0, z1, rfl⟩
  obtain ⟨u0, x0, e0, r0⟩ := opens_t23 _ _ _ (hf 0 _ rfl)
  have e0 : u0.cells.toList = (cs.drop 0).take 1 := e0.trans (congrArg (fun k => (cs.drop 0).take k) (by kernel_rfl : Tryz.prog.cellsOf 23 = 1))
  obtain ⟨a1, n2, c3, rfl, hs4⟩ := r0
  obtain ⟨u1, x1, e1, r1⟩ := (opens_str Tryz.underlying9) _ _ _ (hf 1 _ rfl)
  have e1 : u1.cells.toList = (cs.drop 1).take 1 := e1.trans (congrArg (fun k => (cs.drop 1).take k) (by kernel_rfl : Tryz.prog.cellsOf 9 = 1))
  obtain ⟨rfl, hl5⟩ := r1
  have e0 : ([.slice a1 n2 c3] : List Value) = (cs.drop 0).take 1 := e0
  have e1 : ([sv x1] : List Value) = (cs.drop 1).take 1 := e1
  have hcs : cs = ([.slice a1 n2 c3] : List Value) ++ (([sv x1] : List Value) ++ ([])) := by
    have g : cs = cs.drop 0 := rfl
    have g2 : cs.drop 2 = [] := List.drop_eq_nil_of_le (by omega)
    have g1 : cs.drop 1 = ([sv x1] : List Value) ++ ([]) := by rw [take_drop_cut cs 1 1, ← e1]; exact congrArg _ g2
    have g0 : cs.drop 0 = ([.slice a1 n2 c3] : List Value) ++ (([sv x1] : List Value) ++ ([])) := by rw [take_drop_cut cs 0 1, ← e0]; exact congrArg _ g1
    exact g0
  exact ⟨.agg #[.slice a1 n2 c3, sv x1], ⟨x0, x1⟩, hcs.symm, ⟨a1, n2, c3, rfl, hs4, hl5⟩⟩

theorem opens_t51 : Opens enc Tryz.prog W 51 (tSlice tGSyn) := opens_slice (e := 154) Tryz.underlying51 (by kernel_rfl) (by decide) opens_t154

theorem opens_t53 : Opens enc Tryz.prog W 53 tGConf := fun fuel cs x h => by
  obtain ⟨xs, n, _, _, hl, hlen, hf⟩ := DataW.trod_struct Tryz.underlying53 h
  rw [show Tryz.prog.cellsOf 53 = 2 from by kernel_rfl] at hl
  obtain ⟨y0, y1, rfl⟩ : ∃ y0 y1, xs = [y0, y1] := by
    match xs, hlen with
    | [z0, z1], _ => exact ⟨z0, z1, rfl⟩
  obtain ⟨u0, x0, e0, r0⟩ := opens_t23 _ _ _ (hf 0 _ rfl)
  have e0 : u0.cells.toList = (cs.drop 0).take 1 := e0.trans (congrArg (fun k => (cs.drop 0).take k) (by kernel_rfl : Tryz.prog.cellsOf 23 = 1))
  obtain ⟨a1, n2, c3, rfl, hs4⟩ := r0
  obtain ⟨u1, x1, e1, r1⟩ := opens_t51 _ _ _ (hf 1 _ rfl)
  have e1 : u1.cells.toList = (cs.drop 1).take 1 := e1.trans (congrArg (fun k => (cs.drop 1).take k) (by kernel_rfl : Tryz.prog.cellsOf 51 = 1))
  obtain ⟨a5, n6, c7, rfl, hs8⟩ := r1
  have e0 : ([.slice a1 n2 c3] : List Value) = (cs.drop 0).take 1 := e0
  have e1 : ([.slice a5 n6 c7] : List Value) = (cs.drop 1).take 1 := e1
  have hcs : cs = ([.slice a1 n2 c3] : List Value) ++ (([.slice a5 n6 c7] : List Value) ++ ([])) := by
    have g : cs = cs.drop 0 := rfl
    have g2 : cs.drop 2 = [] := List.drop_eq_nil_of_le (by omega)
    have g1 : cs.drop 1 = ([.slice a5 n6 c7] : List Value) ++ ([]) := by rw [take_drop_cut cs 1 1, ← e1]; exact congrArg _ g2
    have g0 : cs.drop 0 = ([.slice a1 n2 c3] : List Value) ++ (([.slice a5 n6 c7] : List Value) ++ ([])) := by rw [take_drop_cut cs 0 1, ← e0]; exact congrArg _ g1
    exact g0
  exact ⟨.agg #[.slice a1 n2 c3, .slice a5 n6 c7], ⟨x0, x1⟩, hcs.symm, ⟨a1, n2, c3, a5, n6, c7, rfl, hs4, hs8⟩⟩

theorem opens_t183 : Opens enc Tryz.prog W 183 tGField := fun fuel cs x h => by
  obtain ⟨xs, n, _, _, hl, hlen, hf⟩ := DataW.trod_struct Tryz.underlying183 h
  rw [show Tryz.prog.cellsOf 183 = 2 from by kernel_rfl] at hl
  obtain ⟨y0, y1, rfl⟩ : ∃ y0 y1, xs = [y0, y1] := by
    match xs, hlen with
    | [z0, z1], _ => exact ⟨z0, z1, rfl⟩
  obtain ⟨u0, x0, e0, r0⟩ := (opens_str Tryz.underlying9) _ _ _ (hf 0 _ rfl)
  have e0 : u0.cells.toList = (cs.drop 0).take 1 := e0.trans (congrArg (fun k => (cs.drop 0).take k) (by kernel_rfl : Tryz.prog.cellsOf 9 = 1))
  obtain ⟨rfl, hl1⟩ := r0
  obtain ⟨u1, x1, e1, r1⟩ := (opens_str Tryz.underlying9) _ _ _ (hf 1 _ rfl)
  have e1 : u1.cells.toList = (cs.drop 1).take 1 := e1.trans (congrArg (fun k => (cs.drop 1).take k) (by kernel_rfl : Tryz.prog.cellsOf 9 = 1))
  obtain ⟨rfl, hl2⟩ := r1
  have e0 : ([sv x0] : List Value) = (cs.drop 0).take 1 := e0
  have e1 : ([sv x1] : List Value) = (cs.drop 1).take 1 := e1
  have hcs : cs = ([sv x0] : List Value) ++ (([sv x1] : List Value) ++ ([])) := by
    have g : cs = cs.drop 0 := rfl
    have g2 : cs.drop 2 = [] := List.drop_eq_nil_of_le (by omega)
    have g1 : cs.drop 1 = ([sv x1] : List Value) ++ ([]) := by rw [take_drop_cut cs 1 1, ← e1]; exact congrArg _ g2
    have g0 : cs.drop 0 = ([sv x0] : List Value) ++ (([sv x1] : List Value) ++ ([])) := by rw [take_drop_cut cs 0 1, ← e0]; exact congrArg _ g1
    exact g0
  exact ⟨.agg #[sv x0, sv x1], ⟨x0, x1⟩, hcs.symm, ⟨rfl, hl1, hl2⟩⟩

theorem opens_t112 : Opens enc Tryz.prog W 112 (tSlice tGField) := opens_slice (e := 183) Tryz.underlying112 (by kernel_rfl) (by decide) opens_t183

theorem opens_t185 : Opens enc Tryz.prog W 185 tGAttr := fun fuel cs x h => by
  obtain ⟨xs, n, _, _, hl, hlen, hf⟩ := DataW.trod_struct Tryz.underlying185 h
  rw [show Tryz.prog.cellsOf 185 = 2 from by kernel_rfl] at hl
  obtain ⟨y0, y1, rfl⟩ : ∃ y0 y1, xs = [y0, y1] := by
    match xs, hlen with
    | [z0, z1], _ => exact ⟨z0, z1, rfl⟩
  obtain ⟨u0, x0, e0, r0⟩ := (opens_str Tryz.underlying9) _ _ _ (hf 0 _ rfl)
  have e0 : u0.cells.toList = (cs.drop 0).take 1 := e0.trans (congrArg (fun k => (cs.drop 0).take k) (by kernel_rfl : Tryz.prog.cellsOf 9 = 1))
  obtain ⟨rfl, hl1⟩ := r0
  obtain ⟨u1, x1, e1, r1⟩ := (opens_int Tryz.underlying3) _ _ _ (hf 1 _ rfl)
  have e1 : u1.cells.toList = (cs.drop 1).take 1 := e1.trans (congrArg (fun k => (cs.drop 1).take k) (by kernel_rfl : Tryz.prog.cellsOf 3 = 1))
  obtain ⟨rfl, hr2⟩ := r1
  have e0 : ([sv x0] : List Value) = (cs.drop 0).take 1 := e0
  have e1 : ([.int .i64 x1] : List Value) = (cs.drop 1).take 1 := e1
  have hcs : cs = ([sv x0] : List Value) ++ (([.int .i64 x1] : List Value) ++ ([])) := by
    have g : cs = cs.drop 0 := rfl
    have g2 : cs.drop 2 = [] := List.drop_eq_nil_of_le (by omega)
    have g1 : cs.drop 1 = ([.int .i64 x1] : List Value) ++ ([]) := by rw [take_drop_cut cs 1 1, ← e1]; exact congrArg _ g2
    have g0 : cs.drop 0 = ([sv x0] : List Value) ++ (([.int .i64 x1] : List Value) ++ ([])) := by rw [take_drop_cut cs 0 1, ← e0]; exact congrArg _ g1
    exact g0
  exact ⟨.agg #[sv x0, .int .i64 x1], ⟨x0, x1⟩, hcs.symm, ⟨rfl, hl1, hr2⟩⟩

theorem opens_t113 : Opens enc Tryz.prog W 113 (tSlice tGAttr) := opens_slice (e := 185) Tryz.underlying113 (by kernel_rfl) (by decide) opens_t185

theorem opens_t115 : Opens enc Tryz.prog W 115 tGDoc := fun fuel cs x h => by
  obtain ⟨xs, n, _, _, hl, hlen, hf⟩ := DataW.trod_struct Tryz.underlying115 h
  rw [show Tryz.prog.cellsOf 115 = 3 from by kernel_rfl] at hl
  obtain ⟨y0, y1, y2, rfl⟩ : ∃ y0 y1 y2, xs = [y0, y1, y2] := by
    match xs, hlen with
    | [z0, z1, z2], _ => exact ⟨z0, z1, z2, rfl⟩
  obtain ⟨u0, x0, e0, r0⟩ := (opens_int Tryz.underlying3) _ _ _ (hf 0 _ rfl)
  have e0 : u0.cells.toList = (cs.drop 0).take 1 := e0.trans (congrArg (fun k => (cs.drop 0).take k) (by kernel_rfl : Tryz.prog.cellsOf 3 = 1))
  obtain ⟨rfl, hr1⟩ := r0
  obtain ⟨u1, x1, e1, r1⟩ := opens_t112 _ _ _ (hf 1 _ rfl)
  have e1 : u1.cells.toList = (cs.drop 1).take 1 := e1.trans (congrArg (fun k => (cs.drop 1).take k) (by kernel_rfl : Tryz.prog.cellsOf 112 = 1))
  obtain ⟨a2, n3, c4, rfl, hs5⟩ := r1
  obtain ⟨u2, x2, e2, r2⟩ := opens_t113 _ _ _ (hf 2 _ rfl)
  have e2 : u2.cells.toList = (cs.drop 2).take 1 := e2.trans (congrArg (fun k => (cs.drop 2).take k) (by kernel_rfl : Tryz.prog.cellsOf 113 = 1))
  obtain ⟨a6, n7, c8, rfl, hs9⟩ := r2
  have e0 : ([.int .i64 x0] : List Value) = (cs.drop 0).take 1 := e0
  have e1 : ([.slice a2 n3 c4] : List Value) = (cs.drop 1).take 1 := e1
  have e2 : ([.slice a6 n7 c8] : List Value) = (cs.drop 2).take 1 := e2
  have hcs : cs = ([.int .i64 x0] : List Value) ++ (([.slice a2 n3 c4] : List Value) ++ (([.slice a6 n7 c8] : List Value) ++ ([]))) := by
    have g : cs = cs.drop 0 := rfl
    have g3 : cs.drop 3 = [] := List.drop_eq_nil_of_le (by omega)
    have g2 : cs.drop 2 = ([.slice a6 n7 c8] : List Value) ++ ([]) := by rw [take_drop_cut cs 2 1, ← e2]; exact congrArg _ g3
    have g1 : cs.drop 1 = ([.slice a2 n3 c4] : List Value) ++ (([.slice a6 n7 c8] : List Value) ++ ([])) := by rw [take_drop_cut cs 1 1, ← e1]; exact congrArg _ g2
    have g0 : cs.drop 0 = ([.int .i64 x0] : List Value) ++ (([.slice a2 n3 c4] : List Value) ++ (([.slice a6 n7 c8] : List Value) ++ ([]))) := by rw [take_drop_cut cs 0 1, ← e0]; exact congrArg _ g1
    exact g0
  exact ⟨.agg #[.int .i64 x0, .slice a2 n3 c4, .slice a6 n7 c8], ⟨x0, x1, x2⟩, hcs.symm, ⟨a2, n3, c4, a6, n7, c8, rfl, hr1, hs5, hs9⟩⟩

theorem opens_t54 : Opens enc Tryz.prog W 54 (tSlice tGDoc) := opens_slice (e := 115) Tryz.underlying54 (by kernel_rfl) (by decide) opens_t115

theorem opens_t37 : Opens enc Tryz.prog W 37 (tSlice tInt) := opens_slice (e := 3) Tryz.underlying37 (by kernel_rfl) (by decide) (opens_int Tryz.underlying3)

theorem opens_t216 : Opens enc Tryz.prog W 216 tGPost := fun fuel cs x h => by
  obtain ⟨xs, n, _, _, hl, hlen, hf⟩ := DataW.trod_struct Tryz.underlying216 h
  rw [show Tryz.prog.cellsOf 216 = 2 from by kernel_rfl] at hl
  obtain ⟨y0, y1, rfl⟩ : ∃ y0 y1, xs = [y0, y1] := by
    match xs, hlen with
    | [z0, z1], _ => exact ⟨z0, z1, rfl⟩
  obtain ⟨u0, x0, e0, r0⟩ := (opens_int Tryz.underlying3) _ _ _ (hf 0 _ rfl)
  have e0 : u0.cells.toList = (cs.drop 0).take 1 := e0.trans (congrArg (fun k => (cs.drop 0).take k) (by kernel_rfl : Tryz.prog.cellsOf 3 = 1))
  obtain ⟨rfl, hr1⟩ := r0
  obtain ⟨u1, x1, e1, r1⟩ := opens_t37 _ _ _ (hf 1 _ rfl)
  have e1 : u1.cells.toList = (cs.drop 1).take 1 := e1.trans (congrArg (fun k => (cs.drop 1).take k) (by kernel_rfl : Tryz.prog.cellsOf 37 = 1))
  obtain ⟨a2, n3, c4, rfl, hs5⟩ := r1
  have e0 : ([.int .i64 x0] : List Value) = (cs.drop 0).take 1 := e0
  have e1 : ([.slice a2 n3 c4] : List Value) = (cs.drop 1).take 1 := e1
  have hcs : cs = ([.int .i64 x0] : List Value) ++ (([.slice a2 n3 c4] : List Value) ++ ([])) := by
    have g : cs = cs.drop 0 := rfl
    have g2 : cs.drop 2 = [] := List.drop_eq_nil_of_le (by omega)
    have g1 : cs.drop 1 = ([.slice a2 n3 c4] : List Value) ++ ([]) := by rw [take_drop_cut cs 1 1, ← e1]; exact congrArg _ g2
    have g0 : cs.drop 0 = ([.int .i64 x0] : List Value) ++ (([.slice a2 n3 c4] : List Value) ++ ([])) := by rw [take_drop_cut cs 0 1, ← e0]; exact congrArg _ g1
    exact g0
  exact ⟨.agg #[.int .i64 x0, .slice a2 n3 c4], ⟨x0, x1⟩, hcs.symm, ⟨a2, n3, c4, rfl, hr1, hs5⟩⟩

theorem opens_t174 : Opens enc Tryz.prog W 174 (tSlice tGPost) := opens_slice (e := 216) Tryz.underlying174 (by kernel_rfl) (by decide) opens_t216

theorem opens_t176 : Opens enc Tryz.prog W 176 tGEntry := fun fuel cs x h => by
  obtain ⟨xs, n, _, _, hl, hlen, hf⟩ := DataW.trod_struct Tryz.underlying176 h
  rw [show Tryz.prog.cellsOf 176 = 3 from by kernel_rfl] at hl
  obtain ⟨y0, y1, y2, rfl⟩ : ∃ y0 y1 y2, xs = [y0, y1, y2] := by
    match xs, hlen with
    | [z0, z1, z2], _ => exact ⟨z0, z1, z2, rfl⟩
  obtain ⟨u0, x0, e0, r0⟩ := (opens_str Tryz.underlying9) _ _ _ (hf 0 _ rfl)
  have e0 : u0.cells.toList = (cs.drop 0).take 1 := e0.trans (congrArg (fun k => (cs.drop 0).take k) (by kernel_rfl : Tryz.prog.cellsOf 9 = 1))
  obtain ⟨rfl, hl1⟩ := r0
  obtain ⟨u1, x1, e1, r1⟩ := (opens_str Tryz.underlying9) _ _ _ (hf 1 _ rfl)
  have e1 : u1.cells.toList = (cs.drop 1).take 1 := e1.trans (congrArg (fun k => (cs.drop 1).take k) (by kernel_rfl : Tryz.prog.cellsOf 9 = 1))
  obtain ⟨rfl, hl2⟩ := r1
  obtain ⟨u2, x2, e2, r2⟩ := opens_t174 _ _ _ (hf 2 _ rfl)
  have e2 : u2.cells.toList = (cs.drop 2).take 1 := e2.trans (congrArg (fun k => (cs.drop 2).take k) (by kernel_rfl : Tryz.prog.cellsOf 174 = 1))
  obtain ⟨a3, n4, c5, rfl, hs6⟩ := r2
  have e0 : ([sv x0] : List Value) = (cs.drop 0).take 1 := e0
  have e1 : ([sv x1] : List Value) = (cs.drop 1).take 1 := e1
  have e2 : ([.slice a3 n4 c5] : List Value) = (cs.drop 2).take 1 := e2
  have hcs : cs = ([sv x0] : List Value) ++ (([sv x1] : List Value) ++ (([.slice a3 n4 c5] : List Value) ++ ([]))) := by
    have g : cs = cs.drop 0 := rfl
    have g3 : cs.drop 3 = [] := List.drop_eq_nil_of_le (by omega)
    have g2 : cs.drop 2 = ([.slice a3 n4 c5] : List Value) ++ ([]) := by rw [take_drop_cut cs 2 1, ← e2]; exact congrArg _ g3
    have g1 : cs.drop 1 = ([sv x1] : List Value) ++ (([.slice a3 n4 c5] : List Value) ++ ([])) := by rw [take_drop_cut cs 1 1, ← e1]; exact congrArg _ g2
    have g0 : cs.drop 0 = ([sv x0] : List Value) ++ (([sv x1] : List Value) ++ (([.slice a3 n4 c5] : List Value) ++ ([]))) := by rw [take_drop_cut cs 0 1, ← e0]; exact congrArg _ g1
    exact g0
  exact ⟨.agg #[sv x0, sv x1, .slice a3 n4 c5], ⟨x0, x1, x2⟩, hcs.symm, ⟨a3, n4, c5, rfl, hl1, hl2, hs6⟩⟩

theorem opens_t67 : Opens enc Tryz.prog W 67 (tSlice tGEntry) := opens_slice (e := 176) Tryz.underlying67 (by kernel_rfl) (by decide) opens_t176

theorem opens_t69 : Opens enc Tryz.prog W 69 tGSeg := fun fuel cs x h => by
  obtain ⟨xs, n, _, _, hl, hlen, hf⟩ := DataW.trod_struct Tryz.underlying69 h
  rw [show Tryz.prog.cellsOf 69 = 2 from by kernel_rfl] at hl
  obtain ⟨y0, y1, rfl⟩ : ∃ y0 y1, xs = [y0, y1] := by
    match xs, hlen with
    | [z0, z1], _ => exact ⟨z0, z1, rfl⟩
  obtain ⟨u0, x0, e0, r0⟩ := opens_t54 _ _ _ (hf 0 _ rfl)
  have e0 : u0.cells.toList = (cs.drop 0).take 1 := e0.trans (congrArg (fun k => (cs.drop 0).take k) (by kernel_rfl : Tryz.prog.cellsOf 54 = 1))
  obtain ⟨a1, n2, c3, rfl, hs4⟩ := r0
  obtain ⟨u1, x1, e1, r1⟩ := opens_t67 _ _ _ (hf 1 _ rfl)
  have e1 : u1.cells.toList = (cs.drop 1).take 1 := e1.trans (congrArg (fun k => (cs.drop 1).take k) (by kernel_rfl : Tryz.prog.cellsOf 67 = 1))
  obtain ⟨a5, n6, c7, rfl, hs8⟩ := r1
  have e0 : ([.slice a1 n2 c3] : List Value) = (cs.drop 0).take 1 := e0
  have e1 : ([.slice a5 n6 c7] : List Value) = (cs.drop 1).take 1 := e1
  have hcs : cs = ([.slice a1 n2 c3] : List Value) ++ (([.slice a5 n6 c7] : List Value) ++ ([])) := by
    have g : cs = cs.drop 0 := rfl
    have g2 : cs.drop 2 = [] := List.drop_eq_nil_of_le (by omega)
    have g1 : cs.drop 1 = ([.slice a5 n6 c7] : List Value) ++ ([]) := by rw [take_drop_cut cs 1 1, ← e1]; exact congrArg _ g2
    have g0 : cs.drop 0 = ([.slice a1 n2 c3] : List Value) ++ (([.slice a5 n6 c7] : List Value) ++ ([])) := by rw [take_drop_cut cs 0 1, ← e0]; exact congrArg _ g1
    exact g0
  exact ⟨.agg #[.slice a1 n2 c3, .slice a5 n6 c7], ⟨x0, x1⟩, hcs.symm, ⟨a1, n2, c3, a5, n6, c7, rfl, hs4, hs8⟩⟩
end
end Go.Proofs.YtdcmmhjhffcnhaaGreat
