/-
  Types that hold slices of themselves (a query's kids). Of no program.
-/
import Derived.Test.YtmkhlppjphodfaaGreatDoorCoreAD
namespace Go.Fk
open Go
theorem b7.imp {α : Type} {t t' : Ty α} {K : C5} (hs : t'.size = t.size) (h : ∀ {u x}, t.rel K u x → t'.rel K u x) {a : Option Addr} {n c : Nat} {xs : List α} (p : b7 t K a n c xs) : b7 t' K a n c xs :=
 ⟨p.1, p.2.1, p.2.2.1, fun hc => let ⟨b, o, e1, h5⟩ := p.2.2.2 hc; ⟨b, o, e1, fun i x hx => let ⟨u, r, k⟩ := h5 i x hx; ⟨u, h r, by rw [hs]; exact k⟩⟩⟩
structure Lay (α : Type) where
 F : Ty α → Ty α
 size : Nat
 agg : Bool
 size_F : ∀ t, (F t).size = size
 agg_F : ∀ t, (F t).agg = agg
 mono_F : ∀ {t t' : Ty α} {K : C5}, t'.size = t.size → (∀ {u x}, t.rel K u x → t'.rel K u x) → ∀ {u x}, (F t).rel K u x → (F t').rel K u x
namespace Lay
variable {α : Type} (L : Lay α)
def ty : Nat → Ty α
 | 0 => ⟨L.size, L.agg, fun _ _ _ => False, fun _ _ _ h => h, fun h => h.elim, fun h => h.elim, fun h => h.elim⟩
 | n + 1 => L.F (ty n)
theorem ty_size : ∀ n, (L.ty n).size = L.size
 | 0 => rfl
 | _ + 1 => L.size_F _
theorem ty_agg : ∀ n, (L.ty n).agg = L.agg
 | 0 => rfl
 | _ + 1 => L.agg_F _
theorem ty_succ {K : C5} : ∀ {n : Nat} {u : Value} {x : α}, (L.ty n).rel K u x → (L.ty (n + 1)).rel K u x
 | 0, _, _, h => h.elim
 | n + 1, _, _, h => L.mono_F (by rw [ty_size, ty_size]) (fun h => ty_succ h) h
theorem ty_le {K : C5} {n m : Nat} (hnm : n ≤ m) {u : Value} {x : α} (h : (L.ty n).rel K u x) : (L.ty m).rel K u x := by
 induction hnm with
 | refl => exact h
 | step _ ih => exact L.ty_succ ih
def all : Ty α where
 size := L.size
 agg := L.agg
 rel := fun K v x => ∃ n, (L.ty n).rel K v x
 mono := fun h _ _ ⟨n, r⟩ => ⟨n, (L.ty n).mono h r⟩
 shape := fun ⟨n, r⟩ => L.ty_agg n ▸ (L.ty n).shape r
 size_eq := fun ⟨n, r⟩ => ((L.ty n).size_eq r).trans (L.ty_size n)
 ones := fun ⟨n, r⟩ => (L.ty n).ones r
theorem some_bound {K : C5} {A : Nat → Value → Prop} : ∀ (xs : List α), (∀ (i : Nat) x, xs[i]? = some x → ∃ u, L.all.rel K u x ∧ A i u) →
  ∃ N, ∀ (i : Nat) x, xs[i]? = some x → ∃ u, (L.ty N).rel K u x ∧ A i u := by
 intro xs
 induction xs generalizing A with
 | nil => exact fun _ => ⟨0, fun i x h => by simp at h⟩
 | cons y r ih =>
  intro h
  obtain ⟨N, hN⟩ := ih (A := fun i u => A (i + 1) u) fun i x hx => h (i + 1) x (by simpa using hx)
  obtain ⟨u, ⟨m, hm⟩, ha⟩ := h 0 y rfl
  refine ⟨max N m, fun i x hx => ?_⟩
  cases i with
  | zero =>
   simp only [List.getElem?_cons_zero, Option.some.injEq] at hx
   subst hx
   exact ⟨u, L.ty_le (by omega) hm, ha⟩
  | succ i =>
   obtain ⟨u', h1, h2⟩ := hN i x (by simpa using hx)
   exact ⟨u', L.ty_le (by omega) h1, h2⟩
theorem slice_bound {K : C5} {a : Option Addr} {n c : Nat} {xs : List α} (p : b7 L.all K a n c xs) : ∃ N, b7 (L.ty N) K a n c xs := by
 obtain ⟨h1, h2, h3, h4⟩ := p
 by_cases hc : 0 < c
 ·obtain ⟨b, o, e, h5⟩ := h4 hc
  obtain ⟨N, hN⟩ := L.some_bound (A := fun i u => D0 K b (o + i * L.size) u.cells.toList) xs h5
  exact ⟨N, h1, h2, h3, fun _ => ⟨b, o, e, fun i x hx => let ⟨u, r, k⟩ := hN i x hx; ⟨u, r, by rw [L.ty_size]; exact k⟩⟩⟩
 ·exact ⟨0, h1, h2, h3, fun h => (hc h).elim⟩
theorem all_eq (hb : ∀ {K : C5} {u : Value} {x : α}, (L.F L.all).rel K u x → ∃ n, (L.F (L.ty n)).rel K u x) : L.all = L.F L.all := by
 have hr : L.all.rel = (L.F L.all).rel := by
  funext K v x
  refine propext ⟨fun ⟨n, r⟩ => ?_, fun h => ?_⟩
  ·cases n with
   | zero => exact r.elim
   | succ n => exact L.mono_F (t := L.ty n) (t' := L.all) (L.ty_size n).symm (fun h => ⟨n, h⟩) r
  ·obtain ⟨n, r⟩ := hb h
   exact ⟨n + 1, r⟩
 have hs : L.all.size = (L.F L.all).size := (L.size_F _).symm
 have hg : L.all.agg = (L.F L.all).agg := (L.agg_F _).symm
 revert hr hs hg
 generalize L.F L.all = y
 generalize L.all = x
 intro hr hs hg
 cases x; cases y
 simp only at hr hs hg
 subst hr hs hg
 rfl
end Lay
end Go.Fk
