/-
  Variables that a row lists: they read behind the call as before; what a listed map of numbers to structs of scalars holds. Of no program.
-/
import Derived.Test.YtmkhlppjphodfaaGreatDoorCoreL
import Derived.Test.YtmkhlppjphodfaaGreatDoorCoreO
import Derived.OpenVars
import Derived.WideKeyElems2
import Derived.LaidMore
import Derived.LaidHandle
import Derived.LaidLaws
import Derived.Stop.Joined
namespace Go.Fk
open Go Go.ChangeShapes Go.WideShapes Go.ChangeAt Go.RowKit Go.WideElems
set_option linter.unusedSectionVars false
section
variable {H : Type} {enc : TypeId × Value → H} {P : Program} {W W' : World}
theorem b3i (hl : laidOutB P = true) (hb : Below W.heap.size W W') {sp : Nat → Bool} : ∀ {ns : List String} {gs : List (DataW H)} {ps : List MemPlace}, varsRowed P ns = true →
  DataW.TrodVars enc P W (fun _ => true) ns gs ps → (∀ p ∈ ps, sp p.block = true) → DataW.TrodVars enc P W' sp ns gs ps := by
 intro ns
 induction ns with
 | nil => intro gs ps _ h _; cases gs with
  | nil => exact h
  | cons d ds => exact h.elim
 | cons n ns ih =>
  intro gs ps hv h hsp
  cases gs with
  | nil => exact h.elim
  | cons d ds =>
   have k := Below.trodVars hl hb hv h
   have hlt := h.lt
   obtain ⟨g, t, cs, fuel, p, q, h1, h2, h3, h4, hs, rfl⟩ := h
   obtain ⟨g', t', cs', _, _, _, k1, k2, k3, _, _, _⟩ := k
   obtain rfl := Option.some.inj (h1.symm.trans k1)
   obtain rfl := Option.some.inj (h2.symm.trans k2)
   simp only [varsRowed, List.all_cons, l6] at hv
   have ht : P.readableRec t = true ∧ t < P.types.size := by
    have hv1 := hv.1
    obtain ⟨gl, hg, rfl⟩ := Option.map_eq_some_iff.1 h2
    rw [h1, a8, hg] at hv1
    simpa using hv1
   have hcs : cs' = cs := by
    have hg : g < W.heap.size := by
     rcases Nat.lt_or_ge g W.heap.size with hh | hh
     ·exact hh
     ·simp [World.var?, h1, Array.getElem?_eq_none hh] at h3
    have e : W'.var? P n = W.var? P n := by simp only [World.var?, h1, a8, hb.block g hg]
    exact Option.some.inj (k3.symm.trans (e.trans h3))
   subst hcs
   have hp : ∀ x ∈ p, x ∈ MemPlace.row ⟨g, 0, none⟩ cs'.size ++ p ++ q := fun x hx => by simp [hx]
   exact ⟨g, t, cs', fuel, p, q, h1, h2, k3, DataW.trod_stays (kids_book hl ht.1) (book_sized ht.1) (fun e => by cases e) ⟨ht.2, book_self t⟩ h4 (fun x hx => hb.same (hlt x (hp x hx))) (fun x hx => hsp x (hp x hx)),
    ih (by simpa [varsRowed] using hv.2) hs (fun x hx => hsp x (by simp [hx])), rfl⟩
theorem a3O {t : TypeId} {k : IntKind} {base fuel : Nat} {sp : Nat → Bool} {held : Bool} {cs : List Value} {y : DataW H × List MemPlace} {n : Int} (ht : P.underlying t = some (.int k)) (h : DataW.trod enc P W base sp held fuel t cs = some y) (e : y.1 = .lit (.int k n)) : cs = [.int k n] := by
 obtain ⟨m, rfl, rfl, _⟩ := DataW.trod_int ht h
 simp only [DataW.lit.injEq, Lit.int.injEq, true_and] at e
 rw [e]
theorem a95 {t : TypeId} {base fuel : Nat} {sp : Nat → Bool} {held : Bool} {cs : List Value} {y : DataW H × List MemPlace} {b : Bool} (ht : P.underlying t = some .bool) (h : DataW.trod enc P W base sp held fuel t cs = some y) (e : y.1 = .lit (.bool b)) : cs = [.bool b] := by
 obtain ⟨m, rfl, rfl⟩ := DataW.trod_bool ht h
 simp only [DataW.lit.injEq, Lit.bool.injEq] at e
 rw [e]
theorem b5j {cs vs : List Value} (hl : cs.length = vs.length) (h : ∀ i v, vs[i]? = some v → (cs.drop i).take 1 = [v]) : cs = vs := by
 refine List.ext_getElem? fun i => ?_
 cases hv : vs[i]? with
 | none => rw [List.getElem?_eq_none_iff] at hv ⊢; omega
 | some v =>
  have := congrArg (fun l : List Value => l[0]?) (h i v hv)
  simpa using this
variable {α : Type} {cells : α → List Value} {encD : α → DataW Unit} {m : List (Int × α)} {k e : TypeId}
theorem b7f {R : Value → Option (DataW Unit × List MemPlace)} {es : Array MapEntry} {clock : Nat} (hk : P.underlying k = some (.int .i64)) (F : Fit P k R es clock)
  (hx : (es.toList.map (rg P k R)).foldr DataW.insert [] = m.map fun p => (Lit.int .i64 p.1, encD p.2)) (hR : ∀ v a z, R v = some z → z.1 = encD a → v = .agg (cells a).toArray)
  (dec : Lit × DataW Unit → Int × α) (hdec : ∀ p : Int × α, dec (Lit.int .i64 p.1, encD p.2) = p) : ∃ m', a4x cells es m' ∧ m'.Perm m := by
 have hp : (es.toList.map (rg P k R)).Perm (m.map fun p => (Lit.int .i64 p.1, encD p.2)) := by rw [← hx]; exact (sorted_perm _).symm
 refine ⟨(es.toList.map (rg P k R)).map dec, ?_, ?_⟩
 ·unfold a4x
  rw [List.map_map, List.map_map]
  refine List.map_congr_left fun x hxm => ?_
  obtain ⟨y, hy⟩ := F.reads x hxm
  have hym : y ∈ m.map fun p => (Lit.int .i64 p.1, encD p.2) := hp.mem_iff.1 (List.mem_map.2 ⟨x, hxm, rg_of hy⟩)
  obtain ⟨p, _, rfl⟩ := List.mem_map.1 hym
  simp only [Function.comp_apply, rg_of hy, hdec]
  have h1 := rd_key hy
  obtain ⟨z, h2, h3⟩ := rd_val hy
  rw [keyOf_int hk] at h1
  rw [hR _ p.2 z h2 h3.symm]
  unfold mapKey at h1
  rw [hk] at h1
  split at h1 <;> simp_all
 ·have h1 := hp.map dec
  have hid : ((m.map fun p : Int × α => (Lit.int .i64 p.1, encD p.2)).map dec) = m := by
   rw [List.map_map, show (dec ∘ fun p : Int × α => (Lit.int .i64 p.1, encD p.2)) = id from funext hdec, List.map_id]
  rwa [hid] at h1
end
end Go.Fk
