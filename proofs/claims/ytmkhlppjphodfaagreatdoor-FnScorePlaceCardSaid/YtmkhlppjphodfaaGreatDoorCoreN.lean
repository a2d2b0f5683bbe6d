/-
  strings.Join behind its contract; uint(n): a call that is handed nothing, and of whose draws nothing is told. Of no program.
-/
import Derived.Test.YtmkhlppjphodfaaGreatDoorCoreK
import Derived.Shelf.Strings.OnBuilder
namespace Go.Fk
open Go
set_option linter.unusedSectionVars false
variable [dr : Dr]
variable {P : Program} {w w' : World} {K : C5}
def b1P (sep : k6) (xs : List k6) : Option k6 := if xs.length ≤ 140737488355328 ∧ (Lib.join xs sep).length ≤ 140737488355328 then some (Lib.join xs sep) else none
theorem SH.of_below (hD : ¬ dr.D) (h : SH w K [] w K []) (hb : RowKit.Below w.heap.size w w') : SH w K [] w' K [] :=
 ⟨hb.os, hb.tape, hb.output, fun b o v e => by
  have hlt := h.holds.lt e
  rw [World.cell?_of_block (w := w) (a := ⟨b, o, none⟩) (hb.block b hlt)]
  exact h.holds b o v e, h.le, hb.size, fun b hlt _ => hb.block b hlt, fun _ _ _ => rfl, by simp, by simp, by simp, fun d => (hD d).elim⟩
theorem b4t {f : FuncId} (hnone : ∀ (a : Option Addr) (c : Nat) (sep : ByteArray) (w : World), Calls P f #[.slice a 0 c, .string sep] w fun e w' => e = .returned (.string ⟨#[]⟩) ∧ w' = w)
  (hjoin : ∀ (bk o c : Nat) (xs : List ByteArray) (sep : ByteArray) (w : World) (_ : ∀ (j : Nat) x, xs[j]? = some x → w.cell? ⟨bk, o + j, none⟩ = some (.string x)) (_ : bk < w.heap.size) (_ : xs.length ≤ 140737488355328) (_ : xs.length ≤ c)
   (_ : (Lib.join (xs.map (·.data.toList)) sep.data.toList).length ≤ 140737488355328),
   Calls P f #[.slice (some ⟨bk, o, none⟩) xs.length c, .string sep] w fun e w' => e = .returned (.string ⟨(Lib.join (xs.map (·.data.toList)) sep.data.toList).toArray⟩) ∧ RowKit.Below w.heap.size w w')
  {a : Option Addr} {n c : Nat} {xs : List k6} {sep z : k6} (hS : SH w K [] w K []) (hs : b7 B8 K a n c xs) (hD : ¬ dr.D) (hz : b1P sep xs = some z) :
  Calls P f #[.slice a n c, sv sep] w fun e w' => ∃ (K' : C5), e = .returned (sv z) ∧ SH w K [] w' K' [] ∧ z.length ≤ maxLen := by
 unfold b1P at hz
 split at hz
 ·rename_i hb0
  obtain ⟨hlen0, hlen⟩ := hb0
  cases hz
  obtain ⟨rfl, h2, h3, h4⟩ := hs
  cases xs with
  | nil =>
   refine (hnone a c ⟨sep.toArray⟩ w).mono fun e w' ⟨he, hw⟩ => ?_
   subst he hw
   exact ⟨K, rfl, hS, by simp [Lib.join, maxLen]⟩
  | cons x r =>
   obtain ⟨b, o, rfl, h5⟩ := h4 (Nat.lt_of_lt_of_le (by simp) h2)
   have hm : ((x :: r).map fun s : k6 => (⟨s.toArray⟩ : ByteArray)).map (·.data.toList) = x :: r := by
    rw [List.map_map]
    exact List.map_id'' (fun s => by simp) _
   have hcell : ∀ (j : Nat) y, ((x :: r).map fun s : k6 => (⟨s.toArray⟩ : ByteArray))[j]? = some y → w.cell? ⟨b, o + j, none⟩ = some (.string y) := fun j y hj => by
    rw [List.getElem?_map] at hj
    obtain ⟨s, hs, rfl⟩ := Option.map_eq_some_iff.1 hj
    obtain ⟨u, ⟨rfl, _⟩, hk⟩ := h5 j s hs
    have := hS.holds b (o + j) _ (by simpa [sv, Value.cells, B8] using hk 0 (sv s) (by simp [sv, Value.cells]))
    exact this
   have hbk : b < w.heap.size := by
    obtain ⟨u, ⟨rfl, _⟩, hk⟩ := h5 0 x rfl
    exact hS.holds.lt (by simpa [sv, Value.cells, B8] using hk 0 (sv x) (by simp [sv, Value.cells]))
   have hc := hjoin b o c ((x :: r).map fun s : k6 => (⟨s.toArray⟩ : ByteArray)) ⟨sep.toArray⟩ w hcell hbk (by rw [List.length_map]; exact hlen0) (by rw [List.length_map]; exact h2) (by rw [hm]; exact hlen)
   rw [hm, List.length_map] at hc
   exact hc.mono fun e w' ⟨he, hb⟩ => ⟨K, he, hS.of_below hD hb, Nat.le_trans hlen (by decide)⟩
 ·cases hz
section
variable {E : p9} {x y : Operand} {T T' : TypeId}
def nnI (n : Int) : Option Int := if 0 ≤ n then some n else none
theorem b0Y {n m : Int} (hr : d9 n) (h : nnI n = some m) : m = n ∧ 0 ≤ m ∧ d9 m := by
 unfold nnI at h
 split at h
 ·cases h; exact ⟨rfl, by assumption, hr⟩
 ·cases h
theorem b8u {n m : Int} (hT : P.underlying T = some (.int .i64)) (hT' : P.underlying T' = some (.int .u64)) (hx : ev E x = some (.int .i64 n)) (hr : d9 n) (hm : nnI n = some m) : RV P E w (.convert T T' x) (.int .u64 m) :=
 fun ρ _ _ _ _ _ ha => by
  obtain ⟨rfl, h0, h1⟩ := b0Y hr hm
  have e : IntKind.u64.wrap m = m := by
   simp only [IntKind.wrap, IntKind.bits]
   unfold d9 at h1
   simp
   omega
  simp only [execOp, ha x _ hx]; simp [convert, run_underlying hT, run_underlying hT', Conv.intToInt, e]
theorem b65 {k' : IntKind} {a b c : Int} (hx : ev E x = some (.int .u64 a)) (hy : ev E y = some (.int k' b)) (hc : b2h a b = some c) : RV P E w (.binOp .shr T x y T') (.int .u64 c) :=
 fun ρ _ _ _ _ _ ha => by
  unfold b2h at hc
  split at hc
  ·cases hc
  ·rename_i hb; cases hc; simp only [execOp, ha x _ hx, ha y _ hy]; simp [eqGuard, binOp, Op.shift, hb, IntKind.bits]
theorem b8w {k : IntKind} {n : Int} (hT : P.underlying T = some (.int .u64)) (hT' : P.underlying T' = some (.int .i64)) (hx : ev E x = some (.int k n)) (hr : d9 n) : RV P E w (.convert T T' x) (.int .i64 n) :=
 fun ρ _ _ _ _ _ ha => by
  have e : IntKind.i64.wrap n = n := y8 hr
  simp only [execOp, ha x _ hx]; simp [convert, run_underlying hT, run_underlying hT', Conv.intToInt, e]
end
end Go.Fk
