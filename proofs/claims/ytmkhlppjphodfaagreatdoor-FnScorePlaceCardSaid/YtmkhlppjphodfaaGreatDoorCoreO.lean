/-
  A package's variable that holds a map of numbers to structs, read and never written: its entries stand through a call that is handed nothing. Of no program.
-/
import Derived.Test.YtmkhlppjphodfaaGreatDoorCoreFI
import Derived.MapKept
namespace Go.Fk
open Go
set_option linter.unusedSectionVars false
variable [dr : Dr]
variable {P : Program} {α : Type}
def a4x (cells : α → List Value) (es : Array MapEntry) (m : List (Int × α)) : Prop :=
 es.toList.map (fun x => (x.key, x.val)) = m.map fun p => (Value.int .i64 p.1, Value.agg (cells p.2).toArray)
structure a9O (cells : α → List Value) (v b : Nat) (m : List (Int × α)) (w : World) : Prop where
 var : ∃ T fr, w.heap[v]? = some (.cells #[.map (some b)] T fr)
 map : ∃ es clock m', w.heap[b]? = some (.map es clock) ∧ a4x cells es m' ∧ m'.Perm m
variable {cells : α → List Value} {v b : Nat} {m : List (Int × α)} {w0 w : World} {K0 K : C5} {L : List B6}
theorem a9O.keep (h : a9O cells v b m w0) (hS : SH w0 K0 [] w K L) : a9O cells v b m w := by
 obtain ⟨⟨T, fr, h1⟩, es, clock, m', h2, h3⟩ := h
 have l1 : v < w0.heap.size := (Array.getElem?_eq_some_iff.1 h1).1
 have l2 : b < w0.heap.size := (Array.getElem?_eq_some_iff.1 h2).1
 exact ⟨⟨T, fr, (hS.old v l1 (by simp)).trans h1⟩, es, clock, m', (hS.old b l2 (by simp)).trans h2, h3⟩
theorem a4x.at {es : Array MapEntry} (h : a4x cells es m) (i : Nat) : (es.toList[i]?).map (fun x => (x.key, x.val)) = (m[i]?).map fun p => (Value.int .i64 p.1, Value.agg (cells p.2).toArray) := by
 have := congrArg (fun l => l[i]?) h
 simpa [List.getElem?_map] using this
theorem a4x.isKey {es : Array MapEntry} (h : a4x cells es m) : ∀ x ∈ es.toList, MapKept.IsKey (.int .i64) x.key := fun x hx => by
 obtain ⟨i, hi⟩ := List.getElem?_of_mem hx
 have := h.at i
 rw [hi] at this
 cases hm : m[i]? with
 | none => rw [hm] at this; cases this
 | some p =>
  rw [hm] at this
  simp only [Option.map_some, Option.some.injEq, Prod.mk.injEq] at this
  rw [this.1]; simp [MapKept.IsKey]
def a24 (m : List (Int × α)) (n : Int) : Option α := (m.find? fun p => p.1 == n).map (·.2)
theorem a3Q {ok : α → Prop} {z : α} (hm : ∀ p ∈ m, ok p.2) (hz : ok z) (n : Int) : ok ((a24 m n).getD z) := by
 unfold a24
 cases h : m.find? fun p => p.1 == n with
 | none => exact hz
 | some p => exact hm p (List.mem_of_find?_eq_some h)
theorem a8U : ∀ {m : List (Int × α)} {j : Nat} {p : Int × α} {n : Int}, (m.Pairwise fun a b => a.1 ≠ b.1) → m[j]? = some p → p.1 = n → m.find? (fun p => p.1 == n) = some p
 | [], _, _, _, _, h, _ => by simp at h
 | q :: r, 0, p, _, _, h, hp => by
  simp only [List.getElem?_cons_zero, Option.some.injEq] at h
  subst h
  rw [List.find?_cons, beq_iff_eq.2 hp]
 | q :: r, j + 1, p, n, hd, h, hp => by
  have hc := List.pairwise_cons.1 hd
  rw [List.getElem?_cons_succ] at h
  have h1 : (q.1 == n) = false := beq_eq_false_iff_ne.2 fun e => hc.1 p (j7 h) (e.trans hp.symm)
  rw [List.find?_cons, h1]
  exact a8U hc.2 h hp
theorem b2U {m m' : List (Int × α)} (hp : m'.Perm m) (hd : m.Pairwise fun a b => a.1 ≠ b.1) (n : Int) : a24 m' n = a24 m n := by
 unfold a24
 cases h : m'.find? fun p => p.1 == n with
 | none =>
  rw [List.find?_eq_none.2 fun p hm => ?_]
  exact List.find?_eq_none.1 h p (hp.mem_iff.2 hm)
 | some p =>
  obtain ⟨j, hj⟩ := List.getElem?_of_mem (hp.mem_iff.1 (List.mem_of_find?_eq_some h))
  have e : (p.1 == n) = true := List.find?_some (p := fun p : Int × α => p.1 == n) h
  rw [a8U hd hj (eq_of_beq e)]
theorem b4C {t k e : TypeId} {es : Array MapEntry} {clock : Nat} {n : Int} {z : α} (ht : P.underlying t = some (.map k e)) (hk : P.underlying k = some (.int .i64)) (hz : (zeroValue e).run P w = .ok (.agg (cells z).toArray) w)
  (hb : w.heap[b]? = some (.map es clock)) (hm : a4x cells es m) (hd : m.Pairwise fun a b => a.1 ≠ b.1) :
  (Instr.lookup t (.map (some b)) (.int .i64 n) true).run P w = .ok (.tuple #[.agg (cells ((a24 m n).getD z)).toArray, .bool (a24 m n).isSome]) w := by
 have hkey : MapKept.IsKey (.int .i64) (.int .i64 n) := by simp [MapKept.IsKey]
 rcases MapKept.findNow_spec hkey es.toList 0 hm.isKey with ⟨h1, h2⟩ | ⟨j, e0, h1, h2, h3⟩
 ·have hl : a24 m n = none := by
   unfold a24
   rw [List.find?_eq_none.2 fun p hp hn => ?_]
   ·rfl
   ·obtain ⟨i, hi⟩ := List.getElem?_of_mem hp
    have := hm.at i
    rw [hi] at this
    cases hx : es.toList[i]? with
    | none => rw [hx] at this; cases this
    | some x =>
     rw [hx] at this
     simp only [Option.map_some, Option.some.injEq, Prod.mk.injEq] at this
     exact h2 x (j7 hx) (by rw [this.1, eq_of_beq hn])
  rw [hl]
  simp [Instr.lookup, run_underlying ht, MapKept.run_getObj_map hb, MapKept.run_checkKey hk hkey, MapKept.run_findKey hk h1, hz, Result.andThen]
 ·have hv : ∃ x, a24 m n = some x ∧ e0.val = .agg (cells x).toArray := by
   have := hm.at j
   rw [h2] at this
   cases hx : m[j]? with
   | none => rw [hx] at this; cases this
   | some p =>
    rw [hx] at this
    simp only [Option.map_some, Option.some.injEq, Prod.mk.injEq] at this
    rw [h3] at this
    have hpn : p.1 = n := by have := this.1; injection this with _ e; exact e.symm
    have hfind := a8U hd hx hpn
    exact ⟨p.2, by unfold a24; rw [hfind]; rfl, this.2⟩
  obtain ⟨x, hl, hv⟩ := hv
  rw [hl]
  simp [Instr.lookup, run_underlying ht, MapKept.run_getObj_map hb, MapKept.run_checkKey hk hkey, MapKept.run_findKey hk h1, Result.andThen, hv]
variable {E : p9} {T k e : TypeId} {x y : Operand} {n : Int} {size bytes : Nat} {agg : Bool} {z : α}
theorem b5W {zero : Value} (hT : TF P T size false zero bytes) (hx : ev E x = some (.pointer (some ⟨v, 0, none⟩))) (hG : a9O cells v b m w) : RV P E w (.load T x) (.map (some b)) := by
 obtain ⟨T', fr, h1⟩ := hG.var
 refine a1X hT hx (cs := [.map (some b)]) (fun j c e => ?_) (.inr ⟨rfl, rfl⟩)
 cases j with
 | zero => simp at e; subst e; simp [World.cell?, h1]
 | succ j => simp at e
theorem b5X (ht : P.underlying T = some (.map k e)) (hk : P.underlying k = some (.int .i64)) (hz : TF P e size agg (.agg (cells z).toArray) bytes)
  (hx : ev E x = some (.map (some b))) (hy : ev E y = some (.int .i64 n)) (hG : a9O cells v b m w) (hd : m.Pairwise fun a b => a.1 ≠ b.1) :
  RV P E w (.lookup T x y true) (.tuple #[.agg (cells ((a24 m n).getD z)).toArray, .bool (a24 m n).isSome]) := fun ρ _ _ _ _ _ ha => by
 obtain ⟨es, clock, m', hb, hm, hp⟩ := hG.map
 have := b4C (P := P) (n := n) ht hk (a2o hz w) hb hm ((hp.pairwise_iff fun h => h.symm).2 hd)
 rw [b2U hp hd] at this
 simp only [execOp, ha x _ hx, ha y _ hy, Sem.run_bind, this, Result.andThen_ok]
 rfl
end Go.Fk
