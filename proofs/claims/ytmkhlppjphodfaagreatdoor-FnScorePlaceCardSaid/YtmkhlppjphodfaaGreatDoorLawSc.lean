import Derived.Test.YtmkhlppjphodfaaGreatDoorLawPts
import Derived.Test.YtmkhlppjphodfaaGreatDoorLawQs
import Derived.Test.YtmkhlppjphodfaaGreatDoorLawDrs
/-
  What a question's leaves are worth in a document: the program and the reference reckon alike. Of no program's steps.
-/
set_option linter.unusedVariables false
namespace Go.Fk
open Go
def a7Q (c : q9) (w : k6) : k6 := if C4 w && Q9 c then ((C9 c w)[0]?).elim [] (·.Text) else []
theorem b6g {b : UInt8} (h : W7 b = true) : a5c b = true := by
 unfold W7 at h
 unfold a5c
 simp only [Bool.or_eq_true, l6, decide_eq_true_iff, Bool.not_eq_true', Bool.or_eq_false_iff, decide_eq_false_iff_not, UInt8.le_iff_toNat_le, UInt8.lt_iff_toNat_lt] at h ⊢
 have e1 : (97 : UInt8).toNat = 97 := rfl
 have e2 : (122 : UInt8).toNat = 122 := rfl
 have e3 : (48 : UInt8).toNat = 48 := rfl
 have e4 : (57 : UInt8).toNat = 57 := rfl
 have e5 : (32 : UInt8).toNat = 32 := rfl
 have e6 : (126 : UInt8).toNat = 126 := rfl
 omega
theorem a9L {w : k6} (h : C4 w = true) : w.all a5c = true := by
 simp only [C4, l6, List.all_eq_true] at h
 exact List.all_eq_true.2 fun b hb => b6g (h.1 b hb)
theorem b3l {w : k6} (h : C4 w = true) : a0P w = true := by
 have := Q4 h
 unfold a0P
 rw [a9L h, c7 (by omega)]; rfl
theorem b2R (F : Nat) (c : q9) (w : k6) (hc : c.Stops.length ≤ 2000000) (hF : 1000 < F) : a08 F c w = some (a7Q c w) := by
 unfold a08 a7Q
 rw [H8, a8]
 cases hw : C4 w with
 | false => rfl
 | true =>
  have hl := Q4 hw
  rw [l5, g8, a36 F c w (by omega) hc (by omega), a8, b3l hw]
  cases Q9 c with
  | false => rfl
  | true =>
   simp only [Bool.and_self, if_true]
   cases ht : C9 c w with
   | nil => rfl
   | cons x r =>
    rw [beq_eq_false_iff_ne.2 (by simp only [l4]; omega), g8, show ((0 : Int)) = ((0 : Nat) : Int) from rfl, j8]; rfl
def a6n (d : s7) (name : k6) : Int := (d.Nums.find? fun a => a.Name == name).elim (-1) (·.Num)
theorem b4o (F : Nat) (d : s7) (name : k6) (hd : a2x d = true) : a07 F d name = some (a6n d name) := by
 unfold a07 a6n
 rw [a81, a8, hd, i4]
 rw [a15 (fun a => a.Name == name) (fun a => a.Num) (fun i x hx => by
  rw [j8, hx, a8]; cases x.Name == name <;> rfl)]
 cases List.find? (fun a => a.Name == name) d.Nums <;> rfl
def O8 (ws : List k6) : k6 := Lib.join ws [32]
theorem a2Z (a b : k6) (r : List k6) : O8 (a :: b :: r) = a ++ [32] ++ O8 (b :: r) := by
 unfold O8 Lib.join List.intercalate
 rw [List.intersperse_cons_cons, List.flatten_cons, List.flatten_cons, List.append_assoc]
theorem a4M (a : k6) : O8 [a] = a := by
 unfold O8 Lib.join List.intercalate
 simp
theorem a21 : ∀ (ws : List k6), (∀ w ∈ ws, C4 w = true) → (O8 ws).length ≤ 13 * ws.length
 | [], _ => by unfold O8 Lib.join List.intercalate; simp
 | [a], h => by have := Q4 (h a (.head _)); rw [a4M, k5]; omega
 | a :: b :: r, h => by
  have h1 := Q4 (h a (.head _))
  have h2 := a21 (b :: r) fun w hw => h w (.tail _ hw)
  rw [a2Z]
  simp only [k7, l4, List.length_nil] at h2 ⊢
  omega
theorem b1Q : ∀ (ws : List k6), (∀ w ∈ ws, C4 w = true) → (O8 ws).all a5c = true
 | [], _ => by unfold O8 Lib.join List.intercalate; simp
 | [a], h => by rw [a4M]; exact a9L (h a (.head _))
 | a :: b :: r, h => by
  rw [a2Z, List.all_append, List.all_append, a9L (h a (.head _)), b1Q (b :: r) fun w hw => h w (.tail _ hw)]
  rfl
theorem b4u {ws : List k6} (h : ∀ w ∈ ws, C4 w = true) (hl : ws.length ≤ 4) : a0P (O8 ws) = true := by
 have := a21 ws h
 unfold a0P
 rw [b1Q ws h, c7 (by omega)]; rfl
theorem b4m {ws : List k6} (h : ∀ w ∈ ws, C4 w = true) (hl : ws.length ≤ 4) : b1P [32] ws = some (O8 ws) := by
 have := a21 ws h
 unfold O8 at this ⊢
 unfold b1P
 rw [if_pos ⟨by omega, by omega⟩]
theorem a7o : ∀ (n : Nat) (s : k6) (o k : Nat), s.length ≤ n → ∀ w ∈ Q5 s o k, (k : Int) ≤ w.At ∧ w.At ≤ k + s.length
 | n, [], o, k, _, w, hw => by rw [U0] at hw; cases hw
 | 0, b :: r, o, k, h, _, _ => by simp at h
 | n + 1, b :: r, o, k, h, w, hw => by
  rw [Q5] at hw
  by_cases hb : T2 b = true
  ·rw [if_pos hb] at hw
   have hpos : 0 < ((b :: r).takeWhile T2).length := by rw [List.takeWhile_cons, if_pos hb]; simp
   rcases List.mem_cons.1 hw with rfl | hw
   ·exact ⟨Int.le_refl _, by simp only; omega⟩
   ·have ih := a7o n ((b :: r).drop ((b :: r).takeWhile T2).length) _ (k + 1) (by rw [List.length_drop]; omega) w hw
    rw [List.length_drop] at ih
    simp only [l4] at ih hpos ⊢
    omega
  ·rw [if_neg hb] at hw
   have ih := a7o n r (o + 1) k (by rw [l4] at h; omega) w hw
   rw [l4]
   omega
theorem a8F {syns : List Q0} {P : y9 → Prop} (hy : ∀ y ∈ syns, ∀ t, P t → P ⟨y.To, t.At⟩) : ∀ (n : Nat) (l : List y9), (∀ t ∈ l, P t) → ∀ t ∈ a2A syns n l, P t
 | 0, l, _, t, ht => by rw [a2A] at ht; cases ht
 | n + 1, [], _, t, ht => by rw [a2A] at ht; cases ht
 | n + 1, x :: r, h, t, ht => by
  simp only [a2A] at ht
  cases hb : a3J syns (x :: r) with
  | none =>
   rw [hb] at ht
   rcases List.mem_cons.1 ht with rfl | ht
   ·exact h _ (.head _)
   ·exact a8F hy n r (fun t ht => h t (.tail _ ht)) t ht
  | some y =>
   rw [hb] at ht
   rcases List.mem_cons.1 ht with rfl | ht
   ·exact hy y (a2V hb) x (h x (.head _))
   ·exact a8F hy n _ (fun t ht => h t (List.mem_of_mem_drop ht)) t ht
theorem b0p {c : q9} {s : k6} {t : y9} (h : t ∈ a05 c s) : ∃ w ∈ a0j s, t = ⟨W4 w.Text, w.At⟩ := by
 obtain ⟨w, hw, ht⟩ := List.mem_flatMap.1 h
 unfold Z8 at ht
 split at ht
 ·simp only [List.mem_singleton] at ht
  exact ⟨w, hw, ht⟩
 ·cases ht
theorem a9I {c : q9} {s : k6} {t : y9} (h : t ∈ C9 c s) : 0 ≤ t.At ∧ t.At ≤ s.length := by
 refine a8F (P := fun t => 0 ≤ t.At ∧ t.At ≤ s.length) (fun y _ t ht => ht) _ _ (fun t ht => ?_) t h
 obtain ⟨w, hw, rfl⟩ := b0p ht
 have := a7o s.length s 0 0 (Nat.le_refl _) w hw
 simp only; omega
theorem b3g {c : q9} (hc : Q9 c = true) {s : k6} {t : y9} (h : t ∈ C9 c s) : C4 t.Text = true := by
 refine a8F (P := fun t => C4 t.Text = true) (fun y hy t _ => ?_) _ _ (fun t ht => ?_) t h
 ·simp only [Q9, l6, List.all_eq_true] at hc
  have := hc.2 y hy
  simp only [a5J, l6] at this
  exact this.1.2.1
 ·obtain ⟨w, hw, rfl⟩ := b0p ht
  exact b47 (a5Z hw)
theorem b4e {d : s7} (h : a2x d = true) (n : k6) : (E2 d n).length ≤ 160 := by
 have := a35 h n
 simp only [a0P, l6, decide_eq_true_eq] at this
 omega
theorem a98 {ds : List s7} (h : Z2 ds = true) : ∀ d ∈ ds, a2x d = true := by
 simp only [Z2, l6] at h
 exact (a3b h.1).1
theorem b0F {c : q9} {s : z2} (ho : O9 c s = true) (n t : k6) (id : Int) : (∀ x ∈ atS s n t id, 0 ≤ x ∧ x ≤ 160) ∧ (atS s n t id).length ≤ 160 := by
 obtain ⟨_, h2, h3⟩ := a2f ho
 rw [h3]
 by_cases h0 : (atS (a0i c s.Docs) n t id).length = 0
 ·rw [List.length_eq_zero_iff.1 h0]
  exact And.intro (fun x hx => by cases hx) (by simp)
 ·obtain ⟨d, hd, _, he⟩ := b5d h0
  rw [he]
  have hds := a98 h2 d hd
  have h160 := b4e hds n
  refine And.intro (fun x hx => ?_) ?_
  ·unfold Z9 at hx
   obtain ⟨y, hy, hx⟩ := List.mem_flatMap.1 hx
   split at hx
   ·simp only [List.mem_singleton] at hx
    subst hx
    have := a9I hy
    omega
   ·cases hx
  ·have h1 := b3C (c := c) (d := d) n t
   have h2 := a1F c (E2 d n)
   omega
theorem a5N {c : q9} {s : z2} (ho : O9 c s = true) {e : u9} (he : e ∈ s.Entries) : C4 e.Term = true := by
 obtain ⟨h1, h2, h3⟩ := a2f ho
 rw [h3] at he
 have hp := b1D he
 have hm := b3w he
 rw [hm] at hp
 simp only [H2] at hp
 obtain ⟨p, hp⟩ := List.exists_mem_of_length_pos hp
 obtain ⟨d, hd, hpd⟩ := List.mem_flatMap.1 hp
 unfold L9 at hpd
 split at hpd
 ·rename_i hl
  simp only [decide_eq_true_eq] at hl
  obtain ⟨a, ha⟩ := List.exists_mem_of_length_pos hl
  unfold Z9 at ha
  obtain ⟨y, hy, ha⟩ := List.mem_flatMap.1 ha
  split at ha
  ·rename_i hyt
   have := b3g h1 hy
   rw [eq_of_beq hyt] at this
   exact this
  ·cases ha
 ·cases hpd
theorem a5n {c : q9} {s : z2} (ho : O9 c s = true) : s.Entries.length ≤ 10000 ∧ s.Docs.length ≤ 16 := by
 obtain ⟨_, h2, h3⟩ := a2f ho
 have := (a6B (c := c) h2).1
 rw [← h3] at this
 exact ⟨by omega, (a2Y h2).1⟩
def a5F (n : k6) (e : u9) : List k6 := if e.Field == n then [e.Term] else []
def a0O (s : z2) (n : k6) : List k6 := s.Entries.flatMap (a5F n)
theorem b4z (n : k6) (e : u9) : (a5F n e).length ≤ 1 := by unfold a5F; split <;> simp
theorem b3f {s : z2} {n : k6} : (a0O s n).length ≤ s.Entries.length := by
 have := a1s (g := a5F n) (m := 1) s.Entries fun e _ => b4z n e
 unfold a0O; omega
theorem a7A (F : Nat) (c : q9) (s : z2) (n : k6) (hl : s.Entries.length ≤ 10000) : E8 F ⟨c, s⟩ n = some (a0O s n) := by
 have hlen := b3f (s := s) (n := n)
 unfold E8
 dsimp only
 rw [a8A (a5F n) 10000 (fun i e acc hx hB => ?_) [] (by rw [List.nil_append]; unfold a0O at hlen; omega), List.nil_append]
 ·rfl
 ·rw [j8, hx, a8]
  unfold a5F at hB ⊢
  revert hB
  rw [M0]
  cases e.Field == n
  ·intro _; simp
  ·intro hB
   simp only [i4] at hB ⊢
   rw [G7 (by simp at hB ⊢; omega)]; rfl
theorem a7R {c : q9} {s : z2} (ho : O9 c s = true) {n t : k6} (h : t ∈ a0O s n) : C4 t = true := by
 obtain ⟨e, he, ht⟩ := List.mem_flatMap.1 h
 unfold a5F at ht
 split at ht
 ·simp only [List.mem_singleton] at ht
  rw [ht]; exact a5N ho he
 ·cases ht
end Go.Fk
set_option linter.unusedVariables false
namespace Go.Fk
open Go
def a1z (ts : List y9) (q : y9 × Nat) : Int := q.1.At - (ts[0]?).elim 0 (·.At) - (q.2 : Int)
def a7D (sh : Int) (p : Int) : List Int := if decide (sh ≤ p) then [p - sh] else []
def a3C (s : z2) (f : k6) (id : Int) (ts : List y9) (q : y9 × Nat) : List Int := (atS s f q.1.Text id).flatMap (a7D (a1z ts q))
def a04 (s : z2) (f : k6) (id : Int) (ts : List y9) : List (List Int) := ts.zipIdx.map (a3C s f id ts)
def b6d (c : q9) (s : z2) (f : k6) (id : Int) (ts : List y9) : Nat := (ts.map fun t => J4 c s f t.Text id).sum
def a2N (c : q9) (s : z2) (f : k6) (ws : List k6) (n : Int) (id : Int) : Nat :=
 let ts := C9 c (O8 ws)
 if ts.length = 0 then 0 else (if (a3m (a04 s f id ts) n).length < 3 then (a3m (a04 s f id ts) n).length else 3) * b6d c s f id ts
theorem b4w (sh p : Int) : (a7D sh p).length ≤ 1 := by unfold a7D; split <;> simp
theorem a4b (s : z2) (f : k6) (id : Int) (ts : List y9) (q : y9 × Nat) : (a3C s f id ts q).length ≤ (atS s f q.1.Text id).length := by
 have := a1s (g := a7D (a1z ts q)) (m := 1) (atS s f q.1.Text id) fun x _ => b4w _ x
 unfold a3C; omega
theorem b2x {α : Type} (w : α → Nat) (l : List α) (i : Nat) (hi : i < l.length) : ((l.take (i + 1)).map w).sum = ((l.take i).map w).sum + w l[i] := by
 rw [List.take_succ_eq_append_getElem hi, List.map_append, List.sum_append]; simp
theorem a6F {α : Type} {w : α → Nat} {B : Nat} {l : List α} (h : ∀ x ∈ l, w x ≤ B) (i : Nat) : ((l.take i).map w).sum ≤ l.length * B := by
 have h1 := a7n (w := w) (l.take i) fun x hx => h x (List.mem_of_mem_take hx)
 have h2 : (l.take i).length * B ≤ l.length * B := Nat.mul_le_mul_right _ (List.length_take_le' ..)
 omega
theorem b2g {ts : List y9} {B : Nat} (hB : B ≤ 1000) (hl : ts.length ≤ B) (ht : ∀ t ∈ ts, 0 ≤ t.At ∧ t.At ≤ B) {i : Nat} (hi : i < ts.length) :
  u6 (u6 (ts[i].At - (ts[0]'(by omega)).At) - (i : Int)) = a1z ts (ts[i], i) ∧ -(2000 : Int) ≤ a1z ts (ts[i], i) ∧ a1z ts (ts[i], i) ≤ 2000 := by
 have h1 := ht _ (List.getElem_mem hi)
 have h0 := ht _ (List.getElem_mem (show 0 < ts.length by omega))
 have e : a1z ts (ts[i], i) = ts[i].At - (ts[0]'(by omega)).At - (i : Int) := by
  unfold a1z
  rw [i8 (show 0 < ts.length by omega)]; rfl
 rw [e, y8 (n := ts[i].At - (ts[0]'(by omega)).At) ⟨by omega, by omega⟩, y8 ⟨by omega, by omega⟩]
 exact ⟨rfl, by omega, by omega⟩
theorem b32 {α : Type} (l : List α) (i : Nat) (hi : i < l.length) : (l.zipIdx.take (i + 1)) = l.zipIdx.take i ++ [(l[i], i)] := by
 rw [List.take_succ_eq_append_getElem (by simpa using hi)]
 simp
theorem b1N (F : Nat) (c : q9) (s : z2) (f : k6) (ws : List k6) (n a b : Int) (ks : List r5) (d : s7) (ho : O9 c s = true) (hw : ∀ w ∈ ws, C4 w = true) (hl : ws.length ≤ 4) (hF : 1000000000 < F) :
  O1 F ⟨c, s⟩ ⟨a, f, ws, n, b, ks⟩ d = some ((a2N c s f ws n d.Id : Nat) : Int) := by
 obtain ⟨h1, h2, h3⟩ := a2f ho
 have hj := a21 ws hw
 have hst := a32 h1
 unfold O1
 dsimp only
 rw [b4m hw hl, a8, a36 F c _ (by omega) (by omega) (by omega), a8, h1, b4u hw hl]
 simp only [Bool.and_self, if_true]
 have htl := a1F c (O8 ws)
 have hta : ∀ t ∈ C9 c (O8 ws), 0 ≤ t.At ∧ t.At ≤ (100 : Nat) := fun t ht => by have := a9I ht; omega
 unfold a2N
 dsimp only
 generalize hts : C9 c (O8 ws) = ts at *
 by_cases h0 : ts.length = 0
 ·rw [if_pos h0, beq_iff_eq.2 (by omega)]; rfl
 ·rw [if_neg h0, beq_eq_false_iff_ne.2 (by omega), g8]
  have hpt : ∀ t : y9, J4 c s f t.Text d.Id ≤ 1000000000 := fun t => a2a c s f t.Text d.Id ho
  have key := fun g step => a3M (σ := (List (List Int)) × Int) (f := g) (fun i st => st = ((ts.zipIdx.take i).map (a3C s f d.Id ts), ((((ts.take i).map fun t => J4 c s f t.Text d.Id).sum : Nat) : Int))) ts.length step ts.length 0 (([] : List (List Int)), (0 : Int)) (by omega) (by simp)
  generalize hg : (fun (i95 : Nat) (s91 : (List (List Int)) × Int) => _ : Nat → (List (List Int)) × Int → Option ((List (List Int)) × Int)) = g
  obtain ⟨t, ht, hp⟩ := key g (fun i st hi hs => by
   subst hg; subst hs
   refine ⟨_, ?_, rfl⟩
   have hsh := b2g (B := 100) (by omega) (by omega) hta hi
   have har := b0F ho f ts[i].Text d.Id
   have hpl := a4b s f d.Id ts (ts[i], i)
   dsimp only at hpl
   dsimp only
   rw [a0X hi, a8, a4K, a8, a8A (a7D (a1z ts (ts[i], i))) 1000 (fun j x acc hx hB => ?_) [] (by rw [List.nil_append]; unfold a3C at hpl; dsimp only at hpl; omega), List.nil_append, a8, a8, a4L F c s f ts[i].Text d.Id ho hF]
   ·have hsb := a6F (w := fun t : y9 => J4 c s f t.Text d.Id) (l := ts) (fun t _ => hpt t) i
    have hsb2 : ts.length * 1000000000 ≤ 100 * 1000000000 := Nat.mul_le_mul_right _ (by omega)
    have hpi := hpt ts[i]
    rw [G7 (by simp only [List.length_map, List.length_take, List.length_zipIdx, k5]; omega), a8, a8, b32 ts i hi, b2x _ ts i hi, y8 ⟨by omega, by omega⟩, List.map_append]
    simp only [List.map_cons, List.map_nil, a3C]
    congr 2
   ·have hxr := har.1 x (j7 hx)
    have g0 : n5 ts (0 : Int) = some (ts[0]'(by omega)) := a0X (xs := ts) (i := 0) (by omega)
    rw [j8, hx, a8, g0, a8, hsh.1, y8 (n := x - a1z ts (ts[i], i)) ⟨by omega, by omega⟩]
    unfold a7D at hB ⊢
    by_cases hle : a1z ts (ts[i], i) ≤ x
    ·rw [c7 (show (0 : Int) ≤ x - a1z ts (ts[i], i) by omega), i4, c7 hle, if_pos rfl]
     rw [c7 hle, if_pos rfl] at hB
     simp only [k7, k5] at hB
     rw [G7 (by simp only [k5]; omega)]; rfl
    ·rw [c6 (show ¬(0 : Int) ≤ x - a1z ts (ts[i], i) by omega), g8, c6 hle, if_neg (by simp), List.append_nil])
  rw [ht, hp, a8, a8]
  dsimp only
  rw [List.take_of_length_le (by simp), List.take_length]
  have hLl : (a04 s f d.Id ts).length = ts.length := by unfold a04; simp
  have hLe : ∀ l ∈ a04 s f d.Id ts, l.length ≤ 1000 := fun l hl => by
   unfold a04 at hl
   obtain ⟨q, _, rfl⟩ := List.mem_map.1 hl
   have := a4b s f d.Id ts q
   have := (b0F ho f q.1.Text d.Id).2
   omega
  have hph := a9S F (a04 s f d.Id ts) n hLe (by omega) (by omega)
  unfold a04 at hph
  rw [hph, a8, a8]
  have hsb := a6F (w := fun t : y9 => J4 c s f t.Text d.Id) (l := ts) (fun t _ => hpt t) ts.length
  have hsb2 : ts.length * 1000000000 ≤ 100 * 1000000000 := Nat.mul_le_mul_right _ (by omega)
  rw [List.take_length] at hsb
  unfold b6d a04
  generalize (a3m (ts.zipIdx.map (a3C s f d.Id ts)) n).length = k
  generalize (ts.map fun t => J4 c s f t.Text d.Id).sum = m at *
  by_cases hk : k < 3
  ·rw [if_pos (by omega), if_pos hk]
   have : k * m ≤ 3 * m := Nat.mul_le_mul_right _ (by omega)
   rw [show ((k : Nat) : Int) * (m : Int) = ((k * m : Nat) : Int) by simp, y8 ⟨by omega, by omega⟩]
  ·rw [if_neg (by omega), if_neg hk]
   rw [show (3 : Int) * (m : Int) = ((3 * m : Nat) : Int) by simp, y8 ⟨by omega, by omega⟩]
theorem b2W (c : q9) (s : z2) (f : k6) (ws : List k6) (n id : Int) (ho : O9 c s = true) (hw : ∀ w ∈ ws, C4 w = true) (hl : ws.length ≤ 4) : a2N c s f ws n id ≤ 300000000000 := by
 have hj := a21 ws hw
 have htl := a1F c (O8 ws)
 unfold a2N
 dsimp only
 generalize C9 c (O8 ws) = ts at *
 split
 ·omega
 ·have hsb := a6F (w := fun t : y9 => J4 c s f t.Text id) (l := ts) (fun t _ => a2a c s f t.Text id ho) ts.length
  have hsb2 : ts.length * 1000000000 ≤ 100 * 1000000000 := Nat.mul_le_mul_right _ (by omega)
  rw [List.take_length] at hsb
  unfold b6d
  generalize (ts.map fun t => J4 c s f t.Text id).sum = m at *
  split
  ·rename_i hk
   have := Nat.mul_le_mul_right m (Nat.le_of_lt hk)
   omega
  ·omega
end Go.Fk
set_option linter.unusedVariables false
namespace Go.Fk
open Go
def b1T (c : q9) (s : z2) (f w : k6) (id : Int) (t : k6) : Int := (((J4 c s f t id : Nat) : Int) * (3 - a9R t w)).tdiv 3
def a2z (c : q9) (s : z2) (f w : k6) (n id : Int) (best : Int) (t : k6) : Int := if decide (a9R t w ≤ n) then (if best < b1T c s f w id t then b1T c s f w id t else best) else best
def a7E (c : q9) (s : z2) (f w : k6) (n id : Int) : Int := (a0O s f).foldl (a2z c s f w n id) 0
theorem b0K (t w : k6) : 0 ≤ a9R t w ∧ a9R t w ≤ (t.length : Int) + w.length := a8w t w t.length w.length
theorem b1U {p : Nat} {d : Int} (hp : p ≤ 1000000000) (h0 : 0 ≤ d) (h2 : d ≤ 2) : a1y (u6 ((p : Int) * u6 (3 - d))) 3 = some (((p : Int) * (3 - d)).tdiv 3) := by
 have e1 : u6 (3 - d) = 3 - d := y8 ⟨by omega, by omega⟩
 have e2 : u6 ((p : Int) * (3 - d)) = (p : Int) * (3 - d) := by
  have : d = 0 ∨ d = 1 ∨ d = 2 := by omega
  rcases this with rfl | rfl | rfl <;> exact y8 ⟨by omega, by omega⟩
 have e3 : u6 (((p : Int) * (3 - d)).tdiv 3) = ((p : Int) * (3 - d)).tdiv 3 := by
  have : d = 0 ∨ d = 1 ∨ d = 2 := by omega
  rcases this with rfl | rfl | rfl <;> (rw [Int.tdiv_eq_ediv_of_nonneg (by omega)]; exact y8 ⟨by omega, by omega⟩)
 rw [e1, e2, a1y, if_neg (by omega), e3]
theorem b2O (F : Nat) (c : q9) (s : z2) (f w : k6) (n id : Int) (ho : O9 c s = true) (hw : C4 w = true) (hn : 1 ≤ n ∧ n ≤ 2) (hF : 1000000000 < F) {g : Nat → Int → Option Int}
  (hg : ∀ (i : Nat) (b : Int), g i b = (Option.bind (n5 (a0O s f) ((i : Nat) : Int)) fun x140 => (Option.bind (n5 ([w] : List k6) (0 : Int)) fun x150 => (Option.bind (U4 F x140 x150) fun r160 => (Option.bind (y6 F r160 (0 : Int) n) fun r169 => (cond r169 (Option.bind (G1 F ⟨c, s⟩ f x140 id) fun r179 => (Option.bind (a1y (u6 (r179 * (u6 ((3 : Int) - r160)))) (3 : Int)) fun x188 => (some (if x188 > b then x188 else b)))) (some b))))))) :
  W1 g (a0O s f).length 0 (0 : Int) = some (a7E c s f w n id) := by
 unfold a7E
 rw [a5i (xs := a0O s f) (a2z c s f w n id) (fun i x b hx => ?_)]
 have hxw := a7R ho (j7 hx)
 have hfp := b0K x w
 rw [hg, j8, hx, a8, show n5 [w] (0 : Int) = some w from rfl, a8, b5L F x w hxw hw (by omega), a8, M4, a8, I2 hfp.1, l7]
 unfold a2z
 by_cases hd : a9R x w ≤ n
 ·rw [c7 hd, i4, a4L F c s f x id ho hF, a8, b1U (a2a c s f x id ho) hfp.1 (by omega), a8, if_pos rfl]
  rfl
 ·rw [c6 hd, g8, if_neg (by simp)]
theorem a8C (c : q9) (s : z2) (f w : k6) (n id : Int) (ho : O9 c s = true) : ∀ (l : List k6) (b : Int), 0 ≤ b → b ≤ 1000000000 → 0 ≤ l.foldl (a2z c s f w n id) b ∧ l.foldl (a2z c s f w n id) b ≤ 1000000000
 | [], b, h0, h1 => ⟨h0, h1⟩
 | t :: l, b, h0, h1 => by
  rw [List.foldl_cons]
  have hp := a2a c s f t id ho
  have hf := b0K t w
  have hv : b1T c s f w id t ≤ 1000000000 := by
   unfold b1T
   generalize J4 c s f t id = p at *
   generalize a9R t w = d at *
   have h3 : (p : Int) * (3 - d) ≤ (p : Int) * 3 := Int.mul_le_mul_of_nonneg_left (by omega) (by omega)
   by_cases h : (p : Int) * (3 - d) < 0
   ·have : ((p : Int) * (3 - d)).tdiv 3 ≤ 0 := by
     have h4 := Int.neg_tdiv (-((p : Int) * (3 - d))) 3
     rw [Int.neg_neg] at h4
     rw [h4, Int.tdiv_eq_ediv_of_nonneg (by omega)]
     omega
    omega
   ·rw [Int.tdiv_eq_ediv_of_nonneg (by omega)]; omega
  unfold a2z
  split
  ·split
   ·exact a8C c s f w n id ho l _ (by omega) hv
   ·exact a8C c s f w n id ho l b h0 h1
  ·exact a8C c s f w n id ho l b h0 h1
def a3N (s : z2) (f p : k6) (id : Int) (t : k6) : Bool := a1k p t && decide (0 < (atS s f t id).length)
def a7v (s : z2) (f p : k6) (id : Int) : Bool := (a0O s f).any (a3N s f p id)
theorem b4k (F : Nat) (p t : k6) (hp : a8Z p = true) (ht : C4 t = true) (hF : 100 < F) : a0r F p t = some (a1k p t) := by
 have h1 := Q4 ht
 have h2 : p.length ≤ 12 := by
  simp only [a8Z, l6, decide_eq_true_eq] at hp
  omega
 unfold a0r
 rw [a7x, a8, hp, i4, H8, a8, ht, i4, b0e 50 p t F (by omega) (by omega)]; rfl
def b1R (c : q9) (s : z2) (q : r5) (x : s7) : Int :=
 if q.Kind = 1 then 100
 else if q.Kind = 2 then ((J4 c s q.Field (a7Q c (q.Words.headD [])) x.Id : Nat) : Int)
 else if q.Kind = 3 then ((a2N c s q.Field q.Words q.From x.Id : Nat) : Int)
 else if q.Kind = 4 then a7E c s q.Field (q.Words.headD []) q.From x.Id
 else if q.Kind = 5 then (if a7v s q.Field (q.Words.headD []) x.Id then 100 else 0)
 else (if decide (q.From ≤ a6n x q.Field) && decide (a6n x q.Field ≤ q.To) then 100 else 0)
def a3H (and : Bool) (l : List Int) : Int := if and && l.any (· == 0) then 0 else l.sum
def A9 (c : q9) (s : z2) : Nat → r5 → s7 → Int
 | 0, _, _ => 0
 | d + 1, q, x =>
  if q.Kind ≤ 6 then b1R c s q x
  else if q.Kind = 10 then q.From * A9 c s d (q.Kids.headD q) x
  else if q.Kind = 9 then (if 0 < A9 c s d ((q.Kids[1]?).getD q) x then 0 else A9 c s d (q.Kids.headD q) x)
  else a3H (q.Kind == 7) (q.Kids.map fun k => A9 c s d k x)
def a9P : Nat → Int
 | 0 => 1000000000000
 | d + 1 => 36 * a9P d
theorem b3p : ∀ d, 1000000000000 ≤ a9P d
 | 0 => by unfold a9P; omega
 | d + 1 => by have := b3p d; unfold a9P; omega
theorem b5H (c : q9) (s : z2) {q : r5} (h : a3i q) (x : s7) (ho : O9 c s = true) : 0 ≤ b1R c s q x ∧ b1R c s q x ≤ 1000000000000 := by
 cases h with
 | all =>
  show (0 : Int) ≤ 100 ∧ (100 : Int) ≤ _
  omega
 | @term f w hf hw =>
  have := a2a c s f (a7Q c w) x.Id ho
  show 0 ≤ ((J4 c s f (a7Q c w) x.Id : Nat) : Int) ∧ ((J4 c s f (a7Q c w) x.Id : Nat) : Int) ≤ _
  omega
 | @phrase f ws n hf h1 h2 hw h3 h4 =>
  have := b2W c s f ws n x.Id ho hw h2
  show 0 ≤ ((a2N c s f ws n x.Id : Nat) : Int) ∧ ((a2N c s f ws n x.Id : Nat) : Int) ≤ _
  omega
 | @near f w n hf hw h1 h2 =>
  have := a8C c s f w n x.Id ho (a0O s f) 0 (by omega) (by omega)
  show 0 ≤ a7E c s f w n x.Id ∧ a7E c s f w n x.Id ≤ _
  unfold a7E; omega
 | @glob f p hf hp hn =>
  show 0 ≤ (if a7v s f p x.Id then (100 : Int) else 0) ∧ (if a7v s f p x.Id then (100 : Int) else 0) ≤ _
  split <;> omega
 | @range f a b hf h1 h2 h3 h4 =>
  show 0 ≤ (if decide (a ≤ a6n x f) && decide (a6n x f ≤ b) then (100 : Int) else 0) ∧ (if decide (a ≤ a6n x f) && decide (a6n x f ≤ b) then (100 : Int) else 0) ≤ _
  split <;> omega
theorem a3X {B : Int} : ∀ {l : List Int}, (∀ x ∈ l, 0 ≤ x ∧ x ≤ B) → 0 ≤ l.sum ∧ l.sum ≤ (l.length : Int) * B
 | [], _ => by simp
 | x :: l, h => by
  have h1 := h x (.head _)
  have h2 := a3X (l := l) fun y hy => h y (.tail _ hy)
  rw [List.sum_cons, l4, show (((l.length + 1 : Nat) : Int)) * B = (l.length : Int) * B + B by rw [Int.natCast_add, Int.add_mul]; simp]
  omega
theorem b3o {B : Int} {and : Bool} {l : List Int} (hB : 0 ≤ B) (hl : l.length ≤ 4) (h : ∀ x ∈ l, 0 ≤ x ∧ x ≤ B) : 0 ≤ a3H and l ∧ a3H and l ≤ 4 * B := by
 have h1 := a3X h
 have h2 : (l.length : Int) * B ≤ 4 * B := Int.mul_le_mul_of_nonneg_right (by omega) hB
 unfold a3H
 split <;> omega
theorem a6X {q : r5} (h : a3i q) : q.Kind ≤ 6 := by
 cases h with
 | all => exact (by decide : (1 : Int) ≤ 6)
 | term => exact (by decide : (2 : Int) ≤ 6)
 | phrase => exact (by decide : (3 : Int) ≤ 6)
 | near => exact (by decide : (4 : Int) ≤ 6)
 | glob => exact (by decide : (5 : Int) ≤ 6)
 | range => exact (by decide : (6 : Int) ≤ 6)
theorem a2e (c : q9) (s : z2) (x : s7) (ho : O9 c s = true) : ∀ {d : Nat} {q : r5}, H5 d q → 0 ≤ A9 c s d q x ∧ A9 c s d q x ≤ a9P d
 | 0, q, h => by cases h
 | d + 1, q, h => by
  have hb := b3p d
  have hbd : a9P (d + 1) = 36 * a9P d := rfl
  cases h with
  | leaf h =>
   have := b5H c s h x ho
   rw [A9, if_pos (a6X h)]; omega
  | @and _ ks h1 h2 h3 =>
   have := b3o (and := true) (l := ks.map fun k => A9 c s d k x) (B := a9P d) (by omega) (by simpa using h2) fun y hy => by
    obtain ⟨k, hk, rfl⟩ := List.mem_map.1 hy
    exact a2e c s x ho (h3 k hk)
   show 0 ≤ a3H true (ks.map fun k => A9 c s d k x) ∧ a3H true (ks.map fun k => A9 c s d k x) ≤ _
   omega
  | @or _ ks h1 h2 h3 =>
   have := b3o (and := false) (l := ks.map fun k => A9 c s d k x) (B := a9P d) (by omega) (by simpa using h2) fun y hy => by
    obtain ⟨k, hk, rfl⟩ := List.mem_map.1 hy
    exact a2e c s x ho (h3 k hk)
   show 0 ≤ a3H false (ks.map fun k => A9 c s d k x) ∧ a3H false (ks.map fun k => A9 c s d k x) ≤ _
   omega
  | @less _ a b h1 h2 =>
   have r1 := a2e c s x ho h1
   show 0 ≤ (if 0 < A9 c s d b x then 0 else A9 c s d a x) ∧ (if 0 < A9 c s d b x then 0 else A9 c s d a x) ≤ _
   split <;> omega
  | @times _ n k h1 h2 h3 =>
   have r1 := a2e c s x ho h3
   show 0 ≤ n * A9 c s d k x ∧ n * A9 c s d k x ≤ _
   have h4 : n * A9 c s d k x ≤ 9 * A9 c s d k x := Int.mul_le_mul_of_nonneg_right h2 r1.1
   have h5 : 0 ≤ n * A9 c s d k x := Int.mul_nonneg (by omega) r1.1
   omega
end Go.Fk
set_option linter.unusedVariables false
namespace Go.Fk
open Go
theorem b5e {d : Nat} (h : d ≤ 3) : a9P d ≤ 1000000000000 * 46656 := by
 have : d = 0 ∨ d = 1 ∨ d = 2 ∨ d = 3 := by omega
 rcases this with rfl | rfl | rfl | rfl <;> decide
theorem b2F {α : Type} {ks : List α} {v : α → Int} {g : Nat → Int → Option (Int ⊕ Int)} {and : Bool} {m : Int} (hv : ∀ k ∈ ks, 0 ≤ v k)
  (h : ∀ i x a, ks[i]? = some x → 0 ≤ a → a + v x ≤ m → g i a = some (if and && v x == 0 then .inr 0 else .inl (a + v x))) :
  ∀ k i a, i + k = ks.length → 0 ≤ a → a + ((ks.drop i).map v).sum ≤ m → A1 g k i a = some (if and && ((ks.drop i).map v).any (· == 0) then .inr 0 else .inl (a + ((ks.drop i).map v).sum))
 | 0, i, a, e, h0, hm => by
  rw [List.drop_of_length_le (by omega)]
  cases and <;> simp [A1]
 | k + 1, i, a, e, h0, hm => by
  have hi : i < ks.length := by omega
  have hx := hv _ (List.getElem_mem hi)
  rw [List.drop_eq_getElem_cons hi, List.map_cons, List.sum_cons] at hm
  have hrest : 0 ≤ ((ks.drop (i + 1)).map v).sum := by
   have : ∀ l : List α, (∀ x ∈ l, 0 ≤ v x) → 0 ≤ (l.map v).sum := fun l hl => by
    induction l with
    | nil => simp
    | cons y l ih =>
     rw [List.map_cons, List.sum_cons]
     have := hl y (.head _)
     have := ih fun z hz => hl z (.tail _ hz)
     omega
   exact this _ fun x hx => hv x (List.mem_of_mem_drop hx)
  rw [A1, h i ks[i] a (i8 hi) h0 (by omega), List.drop_eq_getElem_cons hi, List.map_cons, List.sum_cons, List.any_cons]
  cases hz : and && v ks[i] == 0
  ·simp only [Bool.false_eq_true, if_false, a8, Sum.elim_inl]
   show A1 g k (i + 1) (a + v ks[i]) = _
   rw [b2F hv h k (i + 1) (a + v ks[i]) (by omega) (by omega) (by omega)]
   cases and
   ·simp; omega
   ·simp only [l7] at hz ⊢
    rw [hz, Bool.false_or, Int.add_assoc]
  ·simp only [l6] at hz
   rw [hz.1, hz.2]; rfl
theorem b4n (F : Nat) (c : q9) (s : z2) {q : r5} (h : a3i q) (x : s7) (ho : O9 c s = true) (hx : x ∈ s.Docs) (hF : 1000000000 < F) : A6 (F + 1) ⟨c, s⟩ q x = some (b1R c s q x) := by
 obtain ⟨h1, h2, h3⟩ := a2f ho
 have hst := (a32 h1).1
 have hfew := a5n ho
 rw [A6]
 dsimp only
 cases h with
 | all => rfl
 | @term f w hf hw =>
  simp only [Int.reduceBEq, g8, i4]
  rw [show n5 ([w] : List k6) (0 : Int) = some w from rfl, a8, b2R F c w (by omega) (by omega), a8, a4L F c s f _ x.Id ho hF]
  rfl
 | @phrase f ws n hf g1 g2 hw g3 g4 =>
  simp only [Int.reduceBEq, g8, i4]
  rw [b1N F c s f ws n 3 0 [] x ho hw g2 hF]
  rfl
 | @near f w n hf hw g1 g2 =>
  simp only [Int.reduceBEq, g8, i4]
  rw [a7A F c s f hfew.1, a8, b2O F c s f w n x.Id ho hw ⟨g1, g2⟩ hF (fun i b => rfl)]
  rfl
 | @glob f p hf hp hn =>
  simp only [Int.reduceBEq, g8, i4]
  rw [a7A F c s f hfew.1, a8,
   a15 (xs := a0O s f) (a3N s f p x.Id) (fun _ => (100 : Int)) (fun i t ht => ?_)]
  ·show _ = some (if a7v s f p x.Id then 100 else 0)
   unfold a7v
   cases hf : (a0O s f).find? (a3N s f p x.Id) with
   | none =>
    have : (a0O s f).any (a3N s f p x.Id) = false := by
     rw [List.any_eq_false]
     exact List.find?_eq_none.1 hf
    rw [this]; rfl
   | some m =>
    have : (a0O s f).any (a3N s f p x.Id) = true := by
     rw [List.any_eq_true]
     exact ⟨m, List.mem_of_find?_eq_some hf, List.find?_some hf⟩
    rw [this]; rfl
  ·have htw := a7R ho (j7 ht)
   rw [j8, ht, a8, show n5 ([p] : List k6) (0 : Int) = some p from rfl, a8, b4k F p t hp htw (by omega), a8]
   unfold a3N
   cases a1k p t
   ·rfl
   ·rw [i4, a4K, a8, a8, l7]
    by_cases h0 : 0 < (atS s f t x.Id).length
    ·rw [c7 (show (0 : Int) < ((atS s f t x.Id).length : Int) by omega), c7 h0]; rfl
    ·rw [c6 (show ¬(0 : Int) < ((atS s f t x.Id).length : Int) by omega), c6 h0]; rfl
 | @range f a b hf g1 g2 g3 g4 =>
  simp only [Int.reduceBEq, g8, i4]
  rw [b4o F x f (a98 h2 x hx), a8, M4, a8]
  show _ = some (if decide (a ≤ a6n x f) && decide (a6n x f ≤ b) then 100 else 0)
  cases decide (a ≤ a6n x f) && decide (a6n x f ≤ b) <;> rfl
theorem a82 (c : q9) (s : z2) (x : s7) (ho : O9 c s = true) (hx : x ∈ s.Docs) : ∀ {d : Nat} {q : r5}, H5 d q → d ≤ 4 → ∀ F, 1000000000 + d < F → A6 F ⟨c, s⟩ q x = some (A9 c s d q x)
 | 0, q, h, _, _, _ => by cases h
 | d + 1, q, h, hd, F, hF => by
  obtain ⟨F, rfl⟩ : ∃ G, F = G + 1 := ⟨F - 1, by omega⟩
  have ih : ∀ k, H5 d k → A6 F ⟨c, s⟩ k x = some (A9 c s d k x) := fun k hk => a82 c s x ho hx hk (by omega) F (by omega)
  have rng : ∀ k, H5 d k → 0 ≤ A9 c s d k x ∧ A9 c s d k x ≤ 1000000000000 * 46656 := fun k hk => by
   have := a2e c s x ho hk
   have := b5e (show d ≤ 3 by omega)
   omega
  cases h with
  | leaf h => rw [b4n F c s h x ho hx (by omega), A9, if_pos (a6X h)]
  | @and _ ks h1 h2 h3 =>
   have hsum := a3X (B := 1000000000000 * 46656) (l := ks.map fun k => A9 c s d k x) fun y hy => by
    obtain ⟨k, hk, rfl⟩ := List.mem_map.1 hy
    exact rng k (h3 k hk)
   rw [List.length_map] at hsum
   rw [A6]
   dsimp only
   simp only [Int.reduceBEq, g8]
   have hv : ∀ k ∈ ks, 0 ≤ A9 c s d k x := fun k hk => (rng k (h3 k hk)).1
   have key := fun g h => b2F (g := g) (and := true) (m := 9000000000000000000) hv h ks.length 0 0 (by omega) (by omega) (by rw [List.drop_zero]; omega)
   rw [key _ (fun i k a hk h0 hm => ?_), List.drop_zero]
   ·show _ = some (a3H true (ks.map fun k => A9 c s d k x))
    unfold a3H
    cases (true && (ks.map fun k => A9 c s d k x).any (· == 0))
    ·simp
    ·simp
   ·have hr := rng k (h3 k (j7 hk))
    rw [j8, hk, a8, ih k (h3 k (j7 hk)), a8, l7, y8 ⟨by omega, by omega⟩]
    cases A9 c s d k x == 0 <;> rfl
  | @or _ ks h1 h2 h3 =>
   have hsum := a3X (B := 1000000000000 * 46656) (l := ks.map fun k => A9 c s d k x) fun y hy => by
    obtain ⟨k, hk, rfl⟩ := List.mem_map.1 hy
    exact rng k (h3 k hk)
   rw [List.length_map] at hsum
   rw [A6]
   dsimp only
   simp only [Int.reduceBEq, g8]
   have hv : ∀ k ∈ ks, 0 ≤ A9 c s d k x := fun k hk => (rng k (h3 k hk)).1
   have key := fun g h => b2F (g := g) (and := false) (m := 9000000000000000000) hv h ks.length 0 0 (by omega) (by omega) (by rw [List.drop_zero]; omega)
   rw [key _ (fun i k a hk h0 hm => ?_), List.drop_zero]
   ·show _ = some (a3H false (ks.map fun k => A9 c s d k x))
    unfold a3H
    simp
   ·have hr := rng k (h3 k (j7 hk))
    rw [j8, hk, a8, ih k (h3 k (j7 hk)), a8, Bool.false_and, y8 ⟨by omega, by omega⟩]
    cases A9 c s d k x == 0 <;> rfl
  | @less _ a b h1 h2 =>
   rw [A6]
   dsimp only
   simp only [Int.reduceBEq, g8, i4]
   rw [show n5 ([a, b] : List r5) (1 : Int) = some b from rfl, a8, ih b h2, a8]
   show _ = some (if 0 < A9 c s d b x then 0 else A9 c s d a x)
   by_cases hb : 0 < A9 c s d b x
   ·rw [c7 hb, i4, if_pos hb]
   ·rw [c6 hb, g8, if_neg hb, show n5 ([a, b] : List r5) (0 : Int) = some a from rfl, a8, ih a h1]; rfl
  | @times _ n k h1 h2 h3 =>
   have hr := rng k h3
   rw [A6]
   dsimp only
   simp only [Int.reduceBEq, g8, i4]
   have h4 : n * A9 c s d k x ≤ 9 * A9 c s d k x := Int.mul_le_mul_of_nonneg_right h2 hr.1
   have h5 : 0 ≤ n * A9 c s d k x := Int.mul_nonneg (by omega) hr.1
   rw [show n5 ([k] : List r5) (0 : Int) = some k from rfl, a8, ih k h3, a8, y8 ⟨by omega, by omega⟩]
   rfl
theorem b5z {c : q9} {s : z2} (ho : O9 c s = true) {x : s7} (hx : x ∈ s.Docs) : s.Docs.find? (fun d => d.Id == x.Id) = some x := by
 obtain ⟨_, h2, _⟩ := a2f ho
 exact b0O (a2Y h2).2.2 hx
end Go.Fk
