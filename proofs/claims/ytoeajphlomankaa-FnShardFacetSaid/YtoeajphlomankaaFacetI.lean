/-
  Counting by a map and handing it out: loops for impl.FacetOf. Of no program.
-/
import Derived.Test.YtoeajphlomankaaCoreW
import Derived.Test.YtoeajphlomankaaCoreX
import Derived.Test.YtoeajphlomankaaTypes
set_option linter.unusedVariables false
namespace Go.Fk
open Go

def countW (ns : List Int) : List (Int × Int) := ns.foldl (fun m n => putM n (w64 (lookM m n + 1)) m) []
def facetOf (p : Int × Int) : GFacet := GFacet.mk p.1 p.2
theorem forE_fold {σ α : Type} (g : σ → α → σ) (xs : List α) : ∀ (k i : Nat) (s : σ), i + k = xs.length → forE (fun (i : Nat) s => Option.bind (getI xs (i : Int)) fun x => some (g s x)) k i s = some ((xs.drop i).foldl g s)
  | 0, i, s, h => by
    rw [List.drop_of_length_le (by omega)]; rfl
  | k + 1, i, s, h => by
    have hi : i < xs.length := by omega
    have e : getI xs (i : Int) = some xs[i] := by
      unfold getI
      rw [if_pos (by omega)]
      simp [hi]
    have := forE_fold g xs k (i + 1) (g s xs[i]) (by omega)
    unfold forE
    rw [e, Option.bind_some, Option.bind_some, this, List.drop_eq_getElem_cons hi, List.foldl_cons]
theorem forE_unit : ∀ (k i : Nat), forE (fun (_ : Nat) (_ : Unit) => some ()) k i () = some ()
  | 0, _ => rfl
  | k + 1, i => by
    unfold forE
    rw [Option.bind_some]; exact forE_unit k (i + 1)
def RngM (m : List (Int × Int)) : Prop := ∀ p ∈ m, rng64 p.1 ∧ rng64 p.2
theorem RngM.nil : RngM [] := fun _ h => by cases h
theorem putM_mem' {n v : Int} {p : Int × Int} : ∀ {m : List (Int × Int)}, p ∈ putM n v m → p = (n, v) ∨ p ∈ m
  | [], h => by simpa [putM] using h
  | q :: r, h => by
    unfold putM at h
    split at h
    · rcases List.mem_cons.1 h with h | h
      · exact .inl h
      · exact .inr (List.mem_cons_of_mem _ h)
    · rcases List.mem_cons.1 h with h | h
      · exact .inr (h ▸ List.mem_cons_self ..)
      · rcases putM_mem' h with h | h
        · exact .inl h
        · exact .inr (List.mem_cons_of_mem _ h)
theorem RngM.put {m : List (Int × Int)} (h : RngM m) {n v : Int} (hn : rng64 n) (hv : rng64 v) : RngM (putM n v m) := fun p hp => by
  rcases putM_mem' hp with rfl | hp
  · exact ⟨hn, hv⟩
  · exact h p hp
end Go.Fk
