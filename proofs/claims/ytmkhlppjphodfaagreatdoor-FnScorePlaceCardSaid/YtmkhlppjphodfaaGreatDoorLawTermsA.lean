import Derived.Test.YtmkhlppjphodfaaGreatDoorLawTSC
import Derived.Test.YtmkhlppjphodfaaGreatDoorLawBase
/-
  The terms of a text: the program and the reference find the same. Of no program.
-/
set_option linter.unusedVariables false
namespace Go.Fk
open Go
theorem a5r : ∀ (n : Nat) (s : k6) (o k : Nat), s.length ≤ n → (Q5 s o k).length ≤ s.length ∧ ∀ w ∈ Q5 s o k, C4 w.Text = true
 | n, [], o, k, _ => by rw [U0]; simp
 | 0, b :: r, o, k, h => by simp at h
 | n + 1, b :: r, o, k, h => by
  rw [Q5]
  by_cases hb : T2 b = true
  ·rw [if_pos hb]
   have hl := List.takeWhile_prefix T2 (l := b :: r)
   have hle := hl.length_le
   have hpos : 0 < ((b :: r).takeWhile T2).length := by rw [List.takeWhile_cons, if_pos hb]; simp
   have ih := a5r n ((b :: r).drop ((b :: r).takeWhile T2).length) (o + ((b :: r).takeWhile T2).length) (k + 1) (by rw [List.length_drop]; omega)
   rw [List.length_drop] at ih
   refine ⟨by rw [l4]; omega, fun w hw => ?_⟩
   rcases List.mem_cons.1 hw with rfl | hw
   ·simp only [C4, l6, decide_eq_true_iff, List.all_eq_true]
    refine ⟨fun x hx => ?_, ?_, ?_⟩
    ·obtain ⟨y, hy, rfl⟩ := List.mem_map.1 (List.mem_of_mem_take hx)
     exact List.all_eq_true.1 List.all_takeWhile y hy
    ·rw [List.length_take, List.length_map]; omega
    ·rw [List.length_take]; omega
   ·exact ih.2 w hw
  ·rw [if_neg hb]
   have ih := a5r n r (o + 1) k (by rw [l4] at h; omega)
   exact ⟨by rw [l4]; omega, ih.2⟩
theorem b0C (s : k6) : (a0j s).length ≤ s.length := (a5r s.length s 0 0 (Nat.le_refl _)).1
theorem a5Z {s : k6} {w : S4} (h : w ∈ a0j s) : C4 w.Text = true := (a5r s.length s 0 0 (Nat.le_refl _)).2 w h
def Z8 (stops : List k6) (w : S4) : List y9 := if !stops.any (· == w.Text) && !stops.any (· == W4 w.Text) then [⟨W4 w.Text, w.At⟩] else []
def a05 (c : q9) (s : k6) : List y9 := (a0j s).flatMap (Z8 c.Stops)
def a0W (l : List y9) (fr : List k6) : Bool := fr.zipIdx.all fun q => (l[q.2]?).elim false fun t => (t.Text == q.1) && ((l[0]?).elim false fun h => t.At == u6 (h.At + (q.2 : Int)))
def a0f (l : List y9) (best : Option Q0) (r : Q0) : Option Q0 := if a0W l r.From && (best.elim true fun b => decide (b.From.length < r.From.length)) then some r else best
def a3J (syns : List Q0) (l : List y9) : Option Q0 := syns.foldl (a0f l) none
def a2A (syns : List Q0) : Nat → List y9 → List y9
 | 0, _ => []
 | _ + 1, [] => []
 | n + 1, t :: r => match a3J syns (t :: r) with
  | none => t :: a2A syns n r
  | some y => ⟨y.To, t.At⟩ :: a2A syns n ((t :: r).drop y.From.length)
def C9 (c : q9) (s : k6) : List y9 := a2A c.Syns (a05 c s).length (a05 c s)
theorem a5G (stops : List k6) (w : S4) : (Z8 stops w).length ≤ 1 := by unfold Z8; split <;> simp
theorem a5m (c : q9) (s : k6) : (a05 c s).length ≤ s.length := by
 have h1 := a1s (g := Z8 c.Stops) (m := 1) (a0j s) (fun w _ => a5G c.Stops w)
 have h2 := b0C s
 unfold a05; omega
theorem a2V {syns : List Q0} {l : List y9} {y : Q0} (h : a3J syns l = some y) : y ∈ syns := by
 have : ∀ (ss : List Q0) (b : Option Q0), ss.foldl (a0f l) b = some y → y ∈ ss ∨ b = some y := by
  intro ss
  induction ss with
  | nil => intro b h; exact .inr h
  | cons x r ih =>
   intro b h
   rw [List.foldl_cons] at h
   rcases ih _ h with h1 | h1
   ·exact .inl (List.mem_cons_of_mem _ h1)
   ·unfold a0f at h1
    split at h1
    ·cases h1; exact .inl (List.mem_cons_self ..)
    ·exact .inr h1
 exact (this syns none h).resolve_right (by simp)
def b0D (syns : List Q0) : Prop := ∀ r ∈ syns, 1 ≤ r.From.length
theorem b5S {syns : List Q0} (hp : b0D syns) : ∀ (n : Nat) (l : List y9), l.length ≤ n → a2A syns n l = a2A syns l.length l := by
 intro n
 induction n using Nat.strongRecOn with
 | _ n ih =>
  intro l hl
  match n, l with
  | 0, [] => rfl
  | 0, t :: r => simp at hl
  | n + 1, [] => rfl
  | n + 1, t :: r =>
   rw [l4] at hl ⊢
   simp only [a2A]
   cases hb : a3J syns (t :: r) with
   | none => simp only; rw [ih n (by omega) r (by omega)]
   | some y =>
    simp only
    have hy := hp y (a2V hb)
    have hd : ((t :: r).drop y.From.length).length ≤ r.length := by rw [List.length_drop, l4]; omega
    rw [ih n (by omega) _ (by omega)]
    rcases Nat.lt_or_ge r.length (n + 1) with h | h
    ·by_cases hrn : r.length < n + 1
     ·rw [ih r.length (by omega) _ hd]
     ·omega
    ·omega
theorem b1z {c : q9} (h : Q9 c = true) : b0D c.Syns := fun r hr => by
 unfold Q9 at h
 rw [l6, List.all_eq_true] at h
 have := h.2 r hr
 simp only [a5J, l6, decide_eq_true_iff] at this
 omega
theorem a32 {c : q9} (h : Q9 c = true) : c.Stops.length ≤ 6 ∧ c.Syns.length ≤ 4 := by
 simp only [Q9, l6, decide_eq_true_iff] at h
 omega
theorem b14 {syns : List Q0} (hp : b0D syns) {l : List y9} {i : Nat} (hi : i < l.length) : a2A syns (l.length - i) (l.drop i) = match a3J syns (l.drop i) with
  | none => l[i] :: a2A syns (l.length - (i + 1)) (l.drop (i + 1))
  | some y => ⟨y.To, l[i].At⟩ :: a2A syns (l.length - (i + y.From.length)) (l.drop (i + y.From.length)) := by
 rw [show l.length - i = (l.length - (i + 1)) + 1 by omega]
 have hc := List.drop_eq_getElem_cons hi
 cases hb : a3J syns (l.drop i) with
 | none =>
  rw [hc] at hb ⊢
  simp only [a2A, hb]
 | some y =>
  have hy := hp y (a2V hb)
  have e1 : (l[i] :: l.drop (i + 1)).drop y.From.length = l.drop (i + y.From.length) := by rw [← hc, List.drop_drop]
  rw [hc] at hb ⊢
  simp only [a2A, hb, e1]
  rw [b5S hp _ (l.drop (i + y.From.length)) (by rw [List.length_drop]; omega), List.length_drop]
theorem a8H (syns : List Q0) (n : Nat) : a2A syns n [] = [] := by cases n <;> rfl
theorem a58 {l : List y9} {fr : List k6} (h : l.length < fr.length) : a0W l fr = false := by
 unfold a0W
 rw [List.all_eq_false]
 refine ⟨(fr[l.length], l.length), List.mem_iff_getElem?.2 ⟨l.length, by rw [List.getElem?_zipIdx, i8 h]; simp⟩, ?_⟩
 simp
theorem b2m (F : Nat) (l : List y9) (fr : List k6) (hl : l.length ≤ 2000000) (hfr : fr.length ≤ 2000000) (hF : fr.length < F) : S7 F l fr = some (a0W l fr) := by
  unfold S7 a0W
  have hz : fr.zipIdx.length = fr.length := by simp
  have hloop := a1v (xs := fr.zipIdx) (fun q => (l[q.2]?).elim false fun t => (t.Text == q.1) && ((l[0]?).elim false fun h => t.At == u6 (h.At + (q.2 : Int)))) F (by omega) (f := fun (s17 : Int) => (cond (decide (s17 < (fr.length : Int))) (Option.bind ((cond (decide ((l.length : Int) ≤ s17)) (some true) (Option.bind (n5 l s17) fun x44 => (Option.bind (n5 fr s17) fun x55 => (cond (!(x44.Text == x55)) (some true) (Option.bind (n5 l s17) fun x71 => (Option.bind (n5 l (0 : Int)) fun x82 => (some (!(x71.At == (u6 (x82.At + s17))))))))))) : Option Bool) fun o31 => (cond o31 (some (.inr (.inr false))) (some (.inl (u6 (s17 + (1 : Int))))))) (some (.inr (.inl ())))))
    (fun i q hq => by
      obtain ⟨hx, rfl⟩ := b31 hq
      have hi := (d5.1 hx).1
      show cond _ _ _ = _
      rw [M0, c7 (by omega), i4, s4 (by omega)]
      rcases Nat.lt_or_ge q.2 l.length with h | h
      · rw [c6 (by omega), g8, j8, j8, hx, i8 h, a8, a8]
        simp only [Option.elim_some]
        cases l[q.2].Text == q.1
        · rfl
        · simp only [l5, g8, a8, l7]
          rw [show (0 : Int) = ((0 : Nat) : Int) from rfl, j8, i8 (show 0 < l.length by omega)]
          simp only [a8, Option.elim_some]
          cases l[q.2].At == u6 (l[0].At + (q.2 : Int)) <;> rfl
      · rw [c7 (by omega), i4, List.getElem?_eq_none h]; rfl)
    (by show cond _ _ _ = _
        rw [hz, c6 (by omega)]; rfl)
  rw [hloop]
  cases fr.zipIdx.all _ <;> rfl
theorem b6a (F : Nat) (c : q9) (l : List y9) (hl : l.length ≤ 2000000) (hs : c.Syns.length ≤ 2000000) (hfr : ∀ r ∈ c.Syns, r.From.length ≤ 2000000 ∧ r.From.length < F) (hF : c.Syns.length < F) :
  ∃ k : Int, a1N F c l = some k ∧ ((k < 0 ∧ a3J c.Syns l = none) ∨ ∃ y, 0 ≤ k ∧ n5 c.Syns k = some y ∧ a3J c.Syns l = some y) := by
 unfold a1N
 have key : ∀ (k i : Nat) (G : Nat) (b : Int) (m : Option Q0), i + k = c.Syns.length → k < G → ((b < 0 ∧ m = none) ∨ ∃ y, 0 ≤ b ∧ n5 c.Syns b = some y ∧ m = some y) →
   ∃ b' : Int, r4 (σ := Int × Int) (τ := Int) (fun (s25 : Int × Int) => (cond (decide (s25.2 < (c.Syns.length : Int))) (Option.bind ((Option.bind (n5 c.Syns s25.2) fun x47 => (Option.bind (S7 F l x47.From) fun r61 => (cond r61 (cond (decide (s25.1 < (0 : Int))) (some true) (Option.bind (n5 c.Syns s25.2) fun x76 => (Option.bind (n5 c.Syns s25.1) fun x90 => (some (decide ((x90.From.length : Int) < (x76.From.length : Int))))))) (some false)))) : Option Bool) fun o40 => (cond o40 (some (.inl (s25.2, (u6 (s25.2 + (1 : Int)))))) (some (.inl (s25.1, (u6 (s25.2 + (1 : Int)))))))) (some (.inr s25.1)))) G (b, (i : Int)) = some b' ∧
    ((b' < 0 ∧ (c.Syns.drop i).foldl (a0f l) m = none) ∨ ∃ y, 0 ≤ b' ∧ n5 c.Syns b' = some y ∧ (c.Syns.drop i).foldl (a0f l) m = some y) := by
  intro k
  induction k with
  | zero =>
   intro i G b m hi hG hb
   obtain ⟨G, rfl⟩ : ∃ H, G = H + 1 := ⟨G - 1, by omega⟩
   refine ⟨b, ?_, ?_⟩
   ·rw [r4]
    simp only
    rw [c6 (by omega)]; rfl
   ·rw [List.drop_of_length_le (by omega)]; exact hb
  | succ k ih =>
   intro i G b m hi hG hb
   obtain ⟨G, rfl⟩ : ∃ H, G = H + 1 := ⟨G - 1, by omega⟩
   have hlt : i < c.Syns.length := by omega
   have hat : n5 c.Syns (i : Int) = some c.Syns[i] := a0X hlt
   have hmem : c.Syns[i] ∈ c.Syns := List.getElem_mem hlt
   rw [List.drop_eq_getElem_cons hlt, List.foldl_cons, r4]
   simp only
   rw [c7 (by omega), i4, hat, a8, b2m F l _ hl (hfr _ hmem).1 (hfr _ hmem).2, a8, s4 (by omega)]
   cases hbg : a0W l c.Syns[i].From
   ·have e : a0f l m c.Syns[i] = m := by unfold a0f; rw [hbg]; simp
    rw [e]
    exact ih (i + 1) G b m (by omega) (by omega) hb
   ·rw [i4]
    rcases hb with ⟨h1, rfl⟩ | ⟨y, h1, h2, rfl⟩
    ·have e : a0f l none c.Syns[i] = some c.Syns[i] := by unfold a0f; rw [hbg]; simp
     rw [c7 h1, i4, a8, i4, e]
     exact ih (i + 1) G _ _ (by omega) (by omega) (.inr ⟨_, by omega, hat, rfl⟩)
    ·rw [c6 (by omega), g8, h2, a8, a8, a8]
     by_cases hlen : y.From.length < c.Syns[i].From.length
     ·have e : a0f l (some y) c.Syns[i] = some c.Syns[i] := by unfold a0f; rw [hbg]; simp [hlen]
      rw [c7 (by omega), i4, e]
      exact ih (i + 1) G _ _ (by omega) (by omega) (.inr ⟨_, by omega, hat, rfl⟩)
     ·have e : a0f l (some y) c.Syns[i] = some y := by unfold a0f; rw [hbg]; simp [hlen]
      rw [c6 (by omega), g8, e]
      exact ih (i + 1) G _ _ (by omega) (by omega) (.inr ⟨_, h1, h2, rfl⟩)
 obtain ⟨b', h1, h2⟩ := key c.Syns.length 0 F (-1) none (by omega) hF (.inl ⟨by omega, rfl⟩)
 rw [List.drop_zero] at h2
 refine ⟨b', ?_, h2⟩
 rw [show (0 : Int) = ((0 : Nat) : Int) from rfl] at *
 rw [h1]; rfl
theorem b5c (xs : List (k6 × Nat)) (p : k6 × Nat → Bool) : ∀ b : Bool, xs.foldl (fun s x => s && p x) b = (b && xs.all p) := by
 induction xs with
 | nil => intro b; simp
 | cons x r ih => intro b; rw [List.foldl_cons, ih, List.all_cons, Bool.and_assoc]
theorem b4q (F : Nat) (c : q9) (l : List y9) (at_ : Nat) (hl : l.length ≤ 2000000) (ha : at_ < l.length) (hfr : ∀ r ∈ c.Syns, r.From.length ≤ 2000000) : a09 F c l (at_ : Int) = some (a3J c.Syns (l.drop at_)) := by
 unfold a09 a3J
 rw [a5i (a0f (l.drop at_)) (fun i r b hr => ?_)]
 ·rfl
 ·rw [j8, hr, a8, y8 ⟨by omega, by omega⟩]
  have hrl := hfr r (j7 hr)
  by_cases hlen : (l.length : Int) - at_ < r.From.length
  ·rw [c7 hlen, i4, a8, i4]
   unfold a0f
   rw [a58 (by rw [List.length_drop]; omega)]; simp
  ·rw [c6 hlen, g8]
   have hfits : (W1 (fun (i106 : Nat) (s102 : Bool) => (Option.bind (n5 r.From ((i106 : Nat) : Int)) fun x115 => (Option.bind (n5 l (u6 ((at_ : Int) + ((i106 : Nat) : Int)))) fun x125 => (cond s102 (cond (x125.Text == x115) (Option.bind (n5 l (at_ : Int)) fun x146 => (some (x125.At == (u6 (x146.At + ((i106 : Nat) : Int)))))) (some false)) (some false))))) r.From.length 0 true) = some (a0W (l.drop at_) r.From) := by
    have hz : r.From.length = r.From.zipIdx.length := by simp
    rw [hz, a5i (xs := r.From.zipIdx) (fun s q => s && (((l.drop at_)[q.2]?).elim false fun t => (t.Text == q.1) && (((l.drop at_)[0]?).elim false fun h => t.At == u6 (h.At + (q.2 : Int))))) (fun i q s hq => ?_), b5c, l7]
    ·rfl
    ·obtain ⟨hx, rfl⟩ := b31 hq
     have hi := (d5.1 hx).1
     rw [j8, hx, a8, y8 ⟨by omega, by omega⟩, show (at_ : Int) + (q.2 : Int) = ((at_ + q.2 : Nat) : Int) by omega, j8, j8, List.getElem?_drop, List.getElem?_drop, Nat.add_zero, i8 (show at_ + q.2 < l.length by omega), i8 ha, a8]
     simp only [Option.elim_some, a8]
     cases s
     ·rfl
     ·cases l[at_ + q.2].Text == q.1 <;> rfl
   rw [hfits]
   unfold a0f
   rw [M0]
   cases b with
   | none =>
    simp only [Option.isSome_none, g8, a8, Option.elim_none, Bool.and_true]
    cases a0W (l.drop at_) r.From <;> rfl
   | some y =>
    simp only [Option.isSome_some, i4, a8, Option.elim_some]
    by_cases hy : r.From.length ≤ y.From.length
    ·rw [c7 (by omega), c6 (by omega)]; simp
    ·rw [c6 (by omega), c7 (by omega)]
     cases a0W (l.drop at_) r.From <;> rfl
end Go.Fk
set_option linter.unusedVariables false
namespace Go.Fk
open Go
theorem a97 {c : q9} (h : Q9 c = true) : ∀ r ∈ c.Syns, r.From.length ≤ 3 := fun r hr => by
 unfold Q9 at h
 rw [l6, List.all_eq_true] at h
 have := h.2 r hr
 simp only [a5J, l6, decide_eq_true_iff] at this
 omega
theorem a8G {syns : List Q0} : ∀ (n : Nat) (l : List y9), (a2A syns n l).length ≤ n
 | 0, l => by rw [a2A]; simp
 | n + 1, [] => by rw [a2A]; simp
 | n + 1, t :: r => by
  simp only [a2A]
  cases a3J syns (t :: r) with
  | none => simp only [l4]; have := a8G (syns := syns) n r; omega
  | some y => simp only [l4]; have := a8G (syns := syns) n ((t :: r).drop y.From.length); omega
theorem a1F (c : q9) (s : k6) : (C9 c s).length ≤ s.length := by
 have h1 := a8G (syns := c.Syns) (a05 c s).length (a05 c s)
 have h2 := a5m c s
 unfold C9; omega
theorem a36 (F : Nat) (c : q9) (s : k6) (hs : s.length ≤ 2000000) (hc : c.Stops.length ≤ 2000000) (hF : s.length + 30 < F) : I6 F c s = some (if Q9 c && a0P s then C9 c s else []) := by
 unfold I6
 rw [a6V F c hc (by omega), a8, M0]
 cases hcs : Q9 c
 ·rfl
 simp only [l5, g8, l7]
 rw [a6W, a8, a8]
 cases hts : a0P s
 ·rfl
 simp only [l5, g8, i4]
 rw [b2T F s hs (by omega), hts, if_pos rfl, a8]
 have hpl := a5m c s
 rw [a8A (Z8 c.Stops) 2000000 (fun i w acc hw hB => ?_) [] (by rw [List.nil_append]; unfold a05 at hpl; omega), List.nil_append, a8, a8]
 ·have hfold : (a0j s).flatMap (Z8 c.Stops) = a05 c s := rfl
  rw [hfold]
  have hp := b1z hcs
  have hfr := a97 hcs
  obtain ⟨l, hl⟩ : ∃ l, l = a05 c s := ⟨_, rfl⟩
  rw [← hl] at hpl ⊢
  rw [a5q (t := a2A c.Syns l.length l) (fun i st => ∃ (out : List y9) (o : Nat), st = (out, (o : Int)) ∧ i ≤ o ∧ out.length ≤ o ∧ o ≤ l.length + 3 ∧ out ++ a2A c.Syns (l.length - o) (l.drop o) = a2A c.Syns l.length l) l.length
   (fun i st hi ⟨out, o, e1, e2, e3, e4, e5⟩ => ?_) (fun st ⟨out, o, e1, e2, e3, e4, e5⟩ => ?_) l.length 0 (([] : List y9), (0 : Int)) F (by omega) (by omega) ⟨[], 0, rfl, by omega, by simp, by omega, by simp⟩]
  ·rw [hl]; rfl
  ·subst e1
   rcases Nat.lt_or_ge o l.length with hol | hol
   ·refine .inl ?_
    rw [c7 (by omega), i4, b4q F c l o (by omega) hol (fun r hr => by have := hfr r hr; omega), a8, j8, i8 hol]
    have hr := b14 hp hol
    cases hb : a3J c.Syns (l.drop o) with
    | none =>
     rw [hb] at hr
     simp only [Option.isNone_none, i4, a8] at hr ⊢
     rw [G7 (by simp; omega), a8, s4 (by omega)]
     exact ⟨_, rfl, _, _, rfl, by omega, by rw [k7, k5]; omega, by omega, by rw [List.append_assoc, ← e5, hr]; rfl⟩
    | some y =>
     rw [hb] at hr
     have hy := hp y (a2V hb)
     have hy3 := hfr y (a2V hb)
     simp only [Option.isNone_some, g8, a8] at hr ⊢
     rw [G7 (by simp; omega), a8, show (o : Int) + (y.From.length : Int) = ((o + y.From.length : Nat) : Int) by omega, y8 ⟨by omega, by omega⟩]
     exact ⟨_, rfl, _, _, rfl, by omega, by rw [k7, k5]; omega, by omega, by rw [List.append_assoc, ← e5, hr]; rfl⟩
   ·refine .inr ?_
    rw [c6 (by omega)]
    show some (Sum.inr out) = _
    rw [← e5, List.drop_of_length_le hol, a8H, List.append_nil]
  ·subst e1
   rw [c6 (by omega)]
   show some (Sum.inr out) = _
   rw [← e5, List.drop_of_length_le (by omega), a8H, List.append_nil]
 ·have hww := a5Z (j7 hw)
  rw [j8, hw, a8, b1f F _ hww (by omega), a8, a3w, a8, a3w]
  unfold Z8 at hB ⊢
  revert hB
  rw [M0]
  cases c.Stops.any (· == w.Text)
  ·simp only [Bool.not_false, i4, a8, l7]
   cases c.Stops.any (· == W4 w.Text)
   ·intro hB
    simp only [Bool.not_false, i4] at hB ⊢
    rw [G7 (by simp at hB ⊢; omega)]; rfl
   ·intro _; simp
  ·intro _; simp
theorem b28 (F : Nat) (c : q9) (s : k6) (hs : s.length ≤ 2000000) (hc : c.Stops.length ≤ 2000000) (hF : s.length + 30 < F) (hF2 : c.Stops.length < F) : a0A F c s = some (a05 c s) := by
 unfold a0A
 have hpl := a5m c s
 have hwl := b0C s
 rw [b3c F s hs (by omega), a8]
 rw [a8W (xs := a0j s) (Z8 c.Stops) 2000000 F (by omega) (fun i w acc hw hB => ?_) (fun acc => ?_) [] (by rw [List.nil_append]; unfold a05 at hpl; omega), List.nil_append]
 ·rfl
 ·have hi := (d5.1 hw).1
  have hww := a5Z (j7 hw)
  have h12 := Q4 hww
  have hst := b2t w.Text
  rw [c7 (by omega), i4, j8, hw, a8, a7k F _ (by omega) (by omega), a8, s4 (by omega), a8, a9D F _ _ hc hF2, a8, a9D F _ _ hc hF2]
  unfold Z8 at hB ⊢
  revert hB
  rw [M0]
  cases c.Stops.any (· == w.Text)
  ·simp only [Bool.not_false, i4, a8, l7]
   cases c.Stops.any (· == W4 w.Text)
   ·intro hB
    simp only [Bool.not_false, i4] at hB ⊢
    rw [G7 (by simp at hB ⊢; omega)]; rfl
   ·intro _; simp
  ·intro _; simp
 ·rw [c6 (by omega)]; rfl
theorem a5p {α : Type} {xs : List α} {k : Nat} (h : k ≤ xs.length) : a2O xs (k : Int) xs.length = some (xs.drop k) := by
 rw [a2O, if_pos (by omega)]; simp
theorem b2H {l : List y9} {fr : List k6} (h : a0W l fr = true) : fr.length ≤ l.length := by
 rcases Nat.lt_or_ge l.length fr.length with h1 | h1
 ·rw [a58 h1] at h; cases h
 ·exact h1
theorem b1r {syns : List Q0} {l : List y9} {y : Q0} (h : a3J syns l = some y) : a0W l y.From = true := by
 have : ∀ (ss : List Q0) (b : Option Q0), (∀ z, b = some z → a0W l z.From = true) → ∀ z, ss.foldl (a0f l) b = some z → a0W l z.From = true := by
  intro ss
  induction ss with
  | nil => intro b hb z h; exact hb z h
  | cons x r ih =>
   intro b hb z h
   rw [List.foldl_cons] at h
   refine ih _ (fun z hz => ?_) z h
   unfold a0f at hz
   split at hz
   ·rename_i hc
    cases hz
    simp only [l6] at hc
    exact hc.1
   ·exact hb z hz
 exact this syns none (by simp) y h
theorem a4d (F : Nat) (c : q9) (s : k6) (hcs : Q9 c = true) (hs : s.length ≤ 2000000) (hF : s.length + 30 < F) : L7 F c s = some (C9 c s) := by
 unfold L7
 have hst := a32 hcs
 have hp := b1z hcs
 have hfr := a97 hcs
 rw [b28 F c s hs (by omega) (by omega) (by omega), a8]
 have hpl := a5m c s
 unfold C9
 obtain ⟨l, hl⟩ : ∃ l, l = a05 c s := ⟨_, rfl⟩
 rw [← hl] at hpl ⊢
 rw [a5q (t := a2A c.Syns l.length l) (fun i st => ∃ (out : List y9) (o : Nat), st = (out, l.drop o) ∧ i ≤ o ∧ out.length ≤ o ∧ o ≤ l.length + 3 ∧ out ++ a2A c.Syns (l.length - o) (l.drop o) = a2A c.Syns l.length l) l.length
  (fun i st hi ⟨out, o, e1, e2, e3, e4, e5⟩ => ?_) (fun st ⟨out, o, e1, e2, e3, e4, e5⟩ => ?_) l.length 0 (([] : List y9), l) F (by omega) (by omega) ⟨[], 0, rfl, by omega, by simp, by omega, by simp⟩]
 ·rfl
 ·subst e1
  rcases Nat.lt_or_ge o l.length with hol | hol
  ·refine .inl ?_
   have hdl : (l.drop o).length = l.length - o := List.length_drop
   have hd0 : (l.drop o)[0]? = some l[o] := by rw [List.getElem?_drop, Nat.add_zero]; exact i8 hol
   have h00 : n5 (l.drop o) (0 : Int) = some l[o] := by rw [show (0 : Int) = ((0 : Nat) : Int) from rfl, j8]; exact hd0
   obtain ⟨k, hk, hor⟩ := b6a F c (l.drop o) (by omega) (by omega) (fun r hr => by have := hfr r hr; omega) (by omega)
   rw [c7 (by simp only; omega), i4, hk, a8, h00]
   have hr := b14 hp hol
   rcases hor with ⟨h1, hb⟩ | ⟨y, h1, h2, hb⟩
   ·rw [hb] at hr
    rw [c7 h1, i4, a8, G7 (by simp; omega), a8]
    simp only
    rw [show (1 : Int) = ((1 : Nat) : Int) from rfl, a5p (by omega), a8, List.drop_drop]
    exact ⟨_, rfl, _, _, rfl, by omega, by rw [k7, k5]; omega, by omega, by rw [List.append_assoc, ← e5, hr]; rfl⟩
   ·rw [hb] at hr
    have hy := hp y (a2V hb)
    have hy3 := hfr y (a2V hb)
    have hyl := b2H (b1r hb)
    rw [c6 (by omega), g8, h2, a8, a8, G7 (by simp; omega), a8, a8]
    simp only
    rw [a5p (by omega), a8, List.drop_drop]
    exact ⟨_, rfl, _, _, rfl, by omega, by rw [k7, k5]; omega, by omega, by rw [List.append_assoc, ← e5, hr]; rfl⟩
  ·refine .inr ?_
   rw [List.drop_of_length_le hol]
   show some (Sum.inr out) = _
   rw [← e5, List.drop_of_length_le hol, a8H, List.append_nil]
 ·subst e1
  rw [List.drop_of_length_le (by omega)]
  show some (Sum.inr out) = _
  rw [← e5, List.drop_of_length_le (by omega), a8H, List.append_nil]
end Go.Fk
