/-
 Walks of the functions. Printed by gen.py.
-/
import Derived.Test.YtmkhlppjphodfaaGreatDoorFacts
set_option linter.unusedVariables false
set_option linter.unusedSectionVars false
set_option maxRecDepth 100000
namespace Go.Proofs.YtmkhlppjphodfaaGreatDoor
set_option maxHeartbeats 4000000
open Go Go.Fk Go.RowKit Tryz
variable (F : Nat) {w : World} {K : C5} {Z : List Nat} {g1 g2 g3 : Nat} {A B C D G H I J O R S T : Option Addr} {a b c d f i k l m n o p q s v x y aa ab ac ad ae af ag : Nat}
variable [dr : Dr]

theorem a6o {q0 : u9} {q1 : k6} {q2 : y9} {r : Bool} (hS : SH w K Z w K [q8 c [sv q1] 9, q8 d [sv q2.Text, V6 q2.At] 117]) (o : q0.Field.length ≤ maxLen) (q : q0.Term.length ≤ maxLen) (s : b7 S1 K A a b q0.Posts) (x : q1.length ≤ maxLen) (y : q2.Text.length ≤ maxLen) (B : d9 q2.At) (hm : a0T F q0 q1 q2 = some r) :
  Calls prog 166 #[.agg #[sv q0.Field, sv q0.Term, V3 A a b], .pointer (some ⟨c, 0, none⟩), .pointer (some ⟨d, 0, none⟩)] w fun e w' => ∃ K', e = .returned (.bool r) ∧ SH w K Z w' K' [q8 c [sv q1] 9, q8 d [sv q2.Text, V6 q2.At] 117] := by
 rw [a0T] at hm
 refine ci func166 rfl ntmps166 (sr (bx rfl hS fun l C m => ?_))
 have i : SH _ _ _ _ _ [q8 l [sv q0.Field, sv q0.Term, V3 A a b] 112, _, _] := m
 refine lv (M7 rfl) (nr (fl a0l rfl D9 m0 i rfl (lv (l8 D9 rfl m1 i rfl) (lv (H0 rfl rfl) (mv rfl (bt hm (fun f k => ?_) (fun f k => ?_)))))))
 ·refine lg f (b8 X5 rfl) (lg f (l8 D9 rfl m0 i rfl) (lg f (b8 a1q rfl) (lg f (l8 D9 rfl m2 i rfl) (lg f (H0 rfl rfl) (lv (j3 rfl f rfl) (av rfl (nq (i9 ?_))))))))
  cases oi k
  exact ey results166 ⟨K, rfl, i.s⟩
 iterate 5 refine lu f ?_
 refine lv (F7 rfl f rfl) (av rfl (nq (i9 ?_)))
 cases oi k
 exact ey results166 ⟨K, rfl, i.s⟩

theorem Z4 {q0 : List u9} {q1c0 : k6} {q1c1 : y9} {r : Int} (hS : SH w K Z w K [q8 c [sv q1c0] 9, q8 d [sv q1c1.Text, V6 q1c1.At] 117]) (f : b7 z6 K A a b q0) (O : q1c0.length ≤ maxLen) (R : q1c1.Text.length ≤ maxLen) (S : d9 q1c1.At) (hm : C7 F q0 q1c0 q1c1 = some r) :
  Calls prog 165 #[V3 A a b, .func (.func 166) #[] #[.pointer (some ⟨c, 0, none⟩), .pointer (some ⟨d, 0, none⟩)]] w fun e w' => ∃ K', e = .returned (V6 r) ∧ SH w K Z w' K' [q8 c [sv q1c0] 9, q8 d [sv q1c1.Text, V6 q1c1.At] 117] ∧ d9 r := by
 rw [C7] at hm
 refine ci func165 rfl ntmps165 (sr (lv (L3 rfl) (P6 (mv rfl (lv (k9 underlying44 rfl f) (lv (r_m rfl) (nq ?_)))))))
 obtain ⟨T, U, i⟩ := ob hm
 refine j4 (IE T w K Z K [] [q8 c [sv q1c0] 9, q8 d [sv q1c1.Text, V6 q1c1.At] 117]) ?_ ?_
 ·refine i5 ?_
  obtain ⟨aq, V, q⟩ := ob U
  refine qf (fun (s : Nat) (x : Unit) => IV w K Z K [(0, V3 A a b), (1, .func (.func 166) #[] #[pt c, pt d]), (7, V6 (q0.length : Int)), (8, V6 ((s : Nat) : Int))] [q8 c [sv q1c0] 9, q8 d [sv q1c1.Text, V6 q1c1.At] 117]) V ⟨K, rfl, hS, kr⟩ ?_ ?_
  ·rintro s x _ W ar hi28 X Y ⟨y, rfl, k, l⟩
   refine sr (lv (n8 rfl rfl) (ns (A3 rfl (c7 (by omega)) (i6 (j6 (k8 (i5 (sr (mv rfl (av rfl (nr (mv rfl ?_))))))))))))
   refine mv rfl (mv rfl ?_)
   obtain ⟨m, aa, ab⟩ := ob X
   refine li underlying44 E3 (f.mono l) aa fun ac ad au ae af => ?_
   obtain ⟨B, C, D, rfl, ag, ah, ai⟩ := ae
   have aj : D0 _ ac ad [sv m.Field, sv m.Term, V3 B C D] := af
   refine lv (D4 E3 rfl k aj rfl) ?_
   obtain ⟨aw, ak, al⟩ := ob ab
   have G := k.f1.f1
   refine x9 wn rfl (a9t (vs := [.agg #[sv m.Field, sv m.Term, V3 B C D]]) (cap := #[pt c, pt d]) b85 rfl rfl) (a6o F G.e2 ag ah ai O R S ak) ?_
   rintro ax ay ⟨H, rfl, I⟩
   refine ⟨_, rfl, ?_⟩
   have J := (G.c2 I).t2
   refine nq (B5 al rfl (fun am o => ?_) (fun am o => ?_))
   ·refine sr (mv rfl (av rfl (nq (i9 (d8 (c9 (c9 ?_)))))))
    cases oi o
    cases Y _ rfl
    refine d8 (c9 ?_)
    cases oi q
    refine c9 ?_
    cases oi i
    exact ey results165 ⟨H, rfl, J, (b05 hi28 (b7.max f))⟩
   refine i6 (o0 (qg (lv (y3 rfl rfl (A0 hi28 (b7.max f))) (mv rfl (d7 ?_)))))
   cases oi o
   exact qd ⟨_, rfl, H, rfl, J, (l.trans I.le)⟩
  rintro x _ W an ⟨y, rfl, k, l⟩
  subst an
  refine sr (lv (n8 rfl rfl) (ns (A2 rfl (c6 (by omega)) (q7 (d4 (d4 (j5 ?_)))))))
  cases oi q
  exact H9 ⟨_, y, rfl, rfl, k, l⟩ trivial
 rintro _ az ⟨aA, ao, rfl, rfl, ap, aB⟩
 have i := C8 i
 refine qr (lv (r9 (v := V6 (-1)) rfl) (nq (i9 ?_)))
 cases oi i
 exact ey results165 ⟨ao, rfl, ap, (by decide : d9 (-1))⟩

theorem a78 {g : Nat} {a : Option Addr} {n : Nat} {c : Nat} {lay : List F6} {q0 : z2} {q1 : k6} {q2 : y9} {q3 : Int} {r : z2} (aJ : SH w K (List.flatMap B6.gs [q8 g [V3 A b d, V3 a n c] 46, a4Z (L0 112 71 3 a n c lay)]) w K [q8 g [V3 A b d, V3 a n c] 46, a4Z (L0 112 71 3 a n c lay)]) (aK : b7 E1 K A b d q0.Docs) (U : a4g lay q0.Entries) (ap : q1.length ≤ maxLen) (aq : q2.Text.length ≤ maxLen) (ag : d9 q2.At) (aL : d9 q3) (hm : a0s F q0 q1 q2 q3 = some r) :
  Calls prog 116 #[.pointer (some ⟨g, 0, none⟩), sv q1, .agg #[sv q2.Text, V6 q2.At], V6 q3] w fun e w' => ∃ a_1 n_2 c_3 a_4 n_5 c_6 lay_7 K', e = .returned (.tuple #[]) ∧ SH w K (List.flatMap B6.gs [q8 g [V3 A b d, V3 a n c] 46, a4Z (L0 112 71 3 a n c lay)]) w' K' [q8 g [V3 a_1 n_2 c_3, V3 a_4 n_5 c_6] 46, a4Z (L0 112 71 3 a_4 n_5 c_6 lay_7)] ∧ b7 E1 K' a_1 n_2 c_3 r.Docs ∧ a4g lay_7 r.Entries := by
 rw [a0s] at hm
 obtain ⟨k, aM, h1⟩ := ob hm
 obtain ⟨es, B, h2⟩ := ob h1
 obtain ⟨en, ar, h3⟩ := ob h2
 obtain ⟨ps, C, h4⟩ := ob h3
 obtain ⟨p, ah, h5⟩ := ob h4
 obtain ⟨at_, V, h6⟩ := ob h5
 cases oi h6
 have aT : SH w K (List.flatMap B6.gs [q8 g [V3 A b d, V3 a n c] 46, a4Z (L0 112 71 3 a n c lay)]) w K (Y2 112 a n c lay :: ((lay).flatMap (F6.items 71 3) ++ [q8 g [V3 A b d, V3 a n c] 46])) := (aJ.perm (List.Perm.swap _ _ _)).unpack
 have aU : SH w K (List.flatMap B6.gs [q8 g [V3 A b d, V3 a n c] 46, a4Z (L0 112 71 3 a n c lay)]) w K (q8 g [V3 A b d, V3 a n c] 46 :: Y2 112 a n c lay :: (lay).flatMap (F6.items 71 3)) := aT.perm (by rw [← List.cons_append]; exact List.perm_append_singleton _ _ |>.symm)
 generalize hMM : (List.flatMap B6.gs [q8 g [V3 A b d, V3 a n c] 46, a4Z (L0 112 71 3 a n c lay)]) = MM at *
 refine ci func116 rfl ntmps116 (sr (bx rfl aU fun i w5 hS3' => ?_))
 have aW : SH w K MM w5 K (q8 i [sv q1] 9 :: q8 g [V3 A b d, V3 a n c] 46 :: Y2 112 a n c lay :: (lay).flatMap (F6.items 71 3)) := hS3'
 refine bx rfl aW fun f w6 hS4' => ?_
 have au : SH w K MM w6 K (q8 f [sv q2.Text, V6 q2.At] 117 :: q8 i [sv q1] 9 :: q8 g [V3 A b d, V3 a n c] 46 :: Y2 112 a n c lay :: (lay).flatMap (F6.items 71 3)) := hS4'
 refine nr (mv rfl (lv (v8 rfl) (fl G3 rfl W8 m2 au rfl (lv (b18 (vs := [pt i, pt f]) rfl) ?_))))
 obtain ⟨gs, hgs⟩ : ∃ gs, gs = (Y2 112 a n c lay :: (lay).flatMap (F6.items 71 3)).flatMap B6.gs := ⟨_, rfl⟩
 have s : SH w K MM w6 K ([q8 i [sv q1] 9, q8 f [sv q2.Text, V6 q2.At] 117] ++ (q8 g [V3 A b d, V3 a n c] 46 :: Y2 112 a n c lay :: (lay).flatMap (F6.items 71 3))) := au.perm (List.Perm.swap _ _ _)
 have hnd := s.nodup
 rw [List.flatMap_append, List.nodup_append, List.flatMap_cons] at hnd
 have hg56 : i ∉ gs ∧ f ∉ gs := by
  rw [hgs]
  exact ⟨fun hb => hnd.2.2 i (by simp [q8, Go.Fk.one]) i (List.mem_append_right _ hb) rfl, fun hb => hnd.2.2 f (by simp [q8, Go.Fk.one]) f (List.mem_append_right _ hb) rfl⟩
 have hseg := b51 (TE := 112) (TP := 71) (TI := 3) (gs := gs) s (fun it hi => List.mem_append_right _ (List.mem_cons_of_mem _ hi)) (fun it hi b hb => by rw [hgs]; exact List.mem_flatMap.2 ⟨it, hi, hb⟩) U
 have hlnd := s.lend (Kin := a7i K w6 gs) (b0t s.holds) (fun it hi => by
  rcases List.mem_cons.1 hi with rfl | hi
  ·exact b3y (s.items _ (List.mem_cons_self ..)) hg56.1
  rcases List.mem_singleton.1 hi with rfl
  exact b3y (s.items _ (List.mem_cons_of_mem _ (List.mem_cons_self ..))) hg56.2)
 refine lk b84 (Z4 F hlnd hseg.1 ap aq ag aM) ?_
 rintro e7 w7 ⟨K7, rfl, hS7', bz⟩
 have aX : SH w K MM w7 K ([q8 i [sv q1] 9, q8 f [sv q2.Text, V6 q2.At] 117] ++ (q8 g [V3 A b d, V3 a n c] 46 :: Y2 112 a n c lay :: (lay).flatMap (F6.items 71 3))) := s.lent (a9w s.holds) hS7' rfl (fun it hi => by
  rcases List.mem_cons.1 hi with rfl | hi
  ·exact b5N (hS7'.items _ (List.mem_cons_self ..)) ((a9w s.holds).trans hS7'.le)
  rcases List.mem_singleton.1 hi with rfl
  exact b5N (hS7'.items _ (List.mem_cons_of_mem _ (List.mem_cons_self ..))) ((a9w s.holds).trans hS7'.le))
 have aj : SH w K MM w7 K (q8 f [sv q2.Text, V6 q2.At] 117 :: q8 i [sv q1] 9 :: q8 g [V3 A b d, V3 a n c] 46 :: Y2 112 a n c lay :: (lay).flatMap (F6.items 71 3)) := aX.perm (List.Perm.swap _ _ _)
 refine av rfl (P6 (mv rfl (lv (n8 rfl rfl) (nq (j4 (fun E' w' => ∃ a2 l m lay2 D, E' = [(0, pt g), (3, V6 q3), (6, pt f), (8, V6 (cond (decide (k < 0)) (q0.Entries.length : Int) k))] ∧ SH w K MM w' D (q8 f [sv q2.Text, V6 q2.At] 117 :: q8 i [sv q1] 9 :: q8 g [V3 A b d, V3 a2 l m] 46 :: Y2 112 a2 l m lay2 :: (lay2).flatMap (F6.items 71 3)) ∧ H6 K D ∧ a4g lay2 es) ?_ ?_)))))
 ·refine S3 rfl (fun hb => ?_) (fun hb => ?_)
  ·rw [hb] at B ⊢
   simp only [i4] at B ⊢
   refine sr (mv rfl (lv (v8 rfl) (fl G3 rfl W8 m2 aj rfl (lv (a3V underlying44 rfl hseg.2) (av rfl (nq ?_))))))
   have G := aj.drew
   refine wh1 (fun w' => E7 K w' ∧ y7 i [sv q1] w' ∧ y7 f [sv q2.Text, V6 q2.At] w') (fun w' => y7 g [V3 A b d, V3 a n c] w') 13 [(4, 10), (10, 13)] mixed ⟨G.hasK kr, G.hasObj m1, G.hasObj m0⟩ (fun _ => G.hasObj (.tail _ (.tail _ (.head _)))) (gt (d6 rfl) (gt (d6 rfl) (gt (v8 rfl) (gt (b8 G3 rfl) (gf (fun _ h => y2 W8 rfl rfl h) (gh (fun _ h => y2 D9 rfl rfl h.2.1) (gt (b8 a1q rfl) (gh (fun _ h => y2 D9 rfl rfl h.2.2) (gt (A5 (cs := #[sv q1, sv q2.Text, V3 none 0 0]) b7K E3 rfl (by kernel_rfl)) ?_)))))))))
   refine gn (J1 (t := b4Z 3) (n := 1) (pv := [(0, .agg #[sv q1, sv q2.Text, V3 none 0 0])]) (cs := [sv q1, sv q2.Text, V3 none 0 0]) (xs := [([sv q1, sv q2.Text, V3 none 0 0] : List Value)]) wn rfl underlying44 E3 rfl rfl rfl (by kernel_rfl) rfl rfl (M1 (t := b4Z 3) (u := .agg #[sv q1, sv q2.Text, V3 none 0 0]) (z := ([sv q1, sv q2.Text, V3 none 0 0] : List Value)) ⟨rfl, rfl, by simp [Value.oneCell', sv]⟩ a2n) G fun a9 w9 K9 W ay hS9' => ?_)
   obtain ⟨b9, o9, rfl⟩ := b13 ay
   have aZ := b3J ay
   have H := hS9'.drop
   refine d7 (qh ⟨H.hasK W, H.hasObj m1, H.hasObj m0⟩ (fun _ => H.hasObj (.tail _ (.tail _ (.head _)))) ?_)
   unfold L8 at B
   split at B
   case isFalse => cases B
   rename_i hbd
   cases B
   have hnl : n = q0.Entries.length := hseg.2
   have hS9t : SH w K MM w9 K9 (Q3 (V3 a n c) (lay.flatMap F6.cells) 112 3 :: (q8 f [sv q2.Text, V6 q2.At] 117 :: q8 i [sv q1] 9 :: q8 g [V3 A b d, V3 a n c] 46 :: (lay).flatMap (F6.items 71 3))) := H.perm (List.perm_middle (l₁ := [_, _, _])).symm
   refine gn ?_
   have hcl9 : (lay.flatMap F6.cells).length = n * 3 := by rw [a2h, ← a9A hS9t (List.mem_cons_self ..)]
   refine a5X wn rfl underlying44 E3 rfl rfl rfl (by decide) rfl aZ (by simp [Value.oneCell', sv]) hcl9 (by simp at hbd; omega) (by simp at hbd; omega) hS9t fun X Y bD I => (d7 (qh ⟨I.hasK W, I.hasObj m2, I.hasObj m1⟩ (fun _ => I.hasObj (.tail _ (.tail _ (.tail _ (.head _))))) (gt (v8 rfl) (gt (b8 G3 rfl) (gn (ls [V3 A b d, V3 (some ⟨X, 0, none⟩) (n + 1) Y] (V3 (some ⟨X, 0, none⟩) (n + 1) Y) W8 I.f3 fun ba aa => (d7 (qh ⟨aa.hasK W, aa.hasObj m3, aa.hasObj m2⟩ (fun h => nomatch h) (gd' ?_)))))))))
   have bb := SH.rowNil aa 71 2
   have bc : SH w K MM ba K9 (q8 f [sv q2.Text, V6 q2.At] 117 :: q8 i [sv q1] 9 :: q8 g [V3 A b d, V3 (some ⟨X, 0, none⟩) (n + 1) Y] 46 :: Y2 112 (some ⟨X, 0, none⟩) (n + 1) Y (lay ++ [F6.mk q1 q2.Text [] none 0 0]) :: ((lay ++ [F6.mk q1 q2.Text [] none 0 0])).flatMap (F6.items 71 3)) := by
    have e1 : (lay ++ [F6.mk q1 q2.Text [] none 0 0]).flatMap F6.cells = lay.flatMap F6.cells ++ [sv q1, sv q2.Text, V3 none 0 0] := by rw [List.flatMap_append]; rfl
    have e2 : ((lay ++ [F6.mk q1 q2.Text [] none 0 0])).flatMap (F6.items 71 3) = (lay).flatMap (F6.items 71 3) ++ [Q3 (V3 none 0 0) [] 71 2] := by rw [List.flatMap_append]; rfl
    unfold Y2
    rw [e1, e2]
    exact bb.perm ((show List.Perm ((_ :: _ :: _ :: _ :: (lay).flatMap (F6.items 71 3)) ++ [_]) _ from List.perm_append_singleton _ _).trans (.cons _ (List.Perm.append_right ((lay).flatMap (F6.items 71 3)) (List.perm_append_comm (l₁ := [_, _]) (l₂ := [_, _])))))
   refine H9 ⟨_, _, _, _, K9, rfl, bc, W, fun x hx => ?_, ?_⟩ ⟨rfl, rfl, rfl, rfl, trivial⟩
   ·rcases List.mem_append.1 hx with hx | hx
    ·exact U.1 x hx
    rcases List.mem_singleton.1 hx with rfl
    exact ⟨ap, aq, by simp⟩
   rw [List.map_append, U.2]; rfl
  rw [hb] at B ⊢
  simp only [g8] at B ⊢
  cases oi B
  exact i6 (qd ⟨a, n, c, lay, K, rfl, aj, .refl _, U⟩)
 rintro _ az ⟨a2, l, m, lay2, D, rfl, am, aA, hlay2⟩
 generalize hkk : (cond (decide (k < 0)) (q0.Entries.length : Int) k) = kk at *
 obtain ⟨hok2, hes⟩ := hlay2
 obtain ⟨el, aB, hel⟩ := b2a (hes ▸ ar : n5 (lay2.map F6.x) kk = some en)
 obtain ⟨pre, post, hsplit, hpre, bE⟩ := b52 aB
 have hn2 := a9A am m3
 have hn2e : l = es.length := by rw [← hes, List.length_map]; exact hn2
 obtain ⟨gE, rfl⟩ := SH.rowI_at am m3 hn2 aB
 obtain ⟨R, hR⟩ : ∃ R, R = ((pre).flatMap (F6.items 71 3) ++ (post).flatMap (F6.items 71 3)) := ⟨_, rfl⟩
 have y : SH w K MM az D (q8 f [sv q2.Text, V6 q2.At] 117 :: q8 i [sv q1] 9 :: q8 g [V3 A b d, V3 (some ⟨gE, 0, none⟩) l m] 46 :: Y2 112 (some ⟨gE, 0, none⟩) l m (pre ++ el :: post) :: F6.row 71 el :: (el.posts.map (P8.item 3) ++ R)) := by
  rw [hR]
  have J := am
  rw [hsplit] at J
  exact J.perm ((List.Perm.append_left [_, _, _] (b0u (TE := 112) (TP := 71) (TI := 3))).symm)
 have helok : el.ok := hok2 el (by rw [hsplit]; simp)
 have hnP : el.n = el.posts.length := a9z y m4
 have hhead := a9x (pre := pre) (post := post) (e := el) (o := kk.toNat * 3 + 2) (by rw [hpre])
 have hpl : el.posts.length ≤ maxLen := b15 y m4 hnP
 have henp : en.Posts = el.posts.map P8.x := by rw [← hel]; rfl
 refine qr (mv rfl (lv (v8 rfl) (fl G3 rfl W8 m2 y rfl (mv rfl (lv (a2T (t := z6) underlying44 E3 rfl rfl rfl hn2e ar) (av rfl (nr (mv rfl (lv (v8 rfl) ?_)))))))))
 refine fa L1 rfl (lv (a2b a2Q rfl rfl hhead rfl (y.hasRow (.tail _ (.tail _ (.tail _ (.head _)))))) (lv (a3V underlying57 rfl hnP) (lv (F2 rfl rfl) (av rfl (ns (k8 (j4 (fun E' w' => E' = [(3, V6 q3), (6, pt f), (9, .pointer (some ⟨gE, kk.toNat * z6.size, none⟩)), (10, V6 (u6 ((el.posts.length : Int) - 1))), (62, .bool (I8 en.Posts q3))] ∧ w' = az) ?_ ?_)))))))
 ·refine i7 (mv rfl (lv (n8 rfl rfl) (mv rfl ?_)))
  rcases List.eq_nil_or_concat el.posts with hnil | ⟨ps0, p0, hcat⟩
  ·have hb : decide (u6 ((el.posts.length : Int) - 1) < 0) = true := by rw [a8L hpl, hnil]; rfl
   have hnp : I8 en.Posts q3 = true := by rw [henp, hnil]; rfl
   rw [hnp]
   iterate 10 refine lu hb ?_
   refine lv (K5 rfl hb rfl) (d7 ?_)
   exact qd ⟨rfl, rfl⟩
  rw [List.concat_eq_append] at hcat
  have hlp : el.posts.length = ps0.length + 1 := by rw [hcat]; simp
  have hw : u6 ((el.posts.length : Int) - 1) = (ps0.length : Int) := by rw [a8L hpl, hlp]; omega
  have hb : decide (u6 ((el.posts.length : Int) - 1) < 0) = false := by rw [hw]; exact c6 (by omega)
  have hnp : I8 en.Posts q3 = !(p0.doc == q3) := by rw [henp, hcat, List.map_append]; simp [I8, P8.x]
  rw [hnp]
  have hzp : n5 en.Posts (u6 ((el.posts.length : Int) - 1)) = some p0.x := by rw [henp, hcat, List.map_append]; exact b09 (by rw [← hcat, hw]; simp)
  have hnPe : el.n = en.Posts.length := by rw [henp, List.length_map]; exact hnP
  obtain ⟨gP, hgP⟩ := SH.rowI_at y m4 hnPe hzp
  have hdoc : (el.posts.flatMap P8.cells)[(u6 ((el.posts.length : Int) - 1)).toNat * 2 + 0]? = some (V6 p0.doc) := by rw [hcat]; exact a9y (k := 0) (by rw [← hcat, hw]; simp)
  refine lg hb (d6 rfl) (lg hb (v8 rfl) (lg hb (b8 L1 rfl) (lg hb (a2b a2Q rfl rfl hhead rfl (y.hasRow (.tail _ (.tail _ (.tail _ (.head _)))))) (lg hb (d6 rfl) (lg hb (a2T (t := S1) underlying57 a1m rfl rfl hgP hnPe hzp) (lg hb (b8 a4E rfl) (lg hb (a2b D8 rfl rfl hdoc hgP (y.hasRow (.tail _ (.tail _ (.tail _ (.tail _ (.head _))))))) (lg hb (d6 rfl) (lg hb (W3 rfl rfl) ?_)))))))))
  refine lv (j9 rfl hb rfl) (d7 ?_)
  exact qd ⟨rfl, rfl⟩
 rintro _ _ ⟨rfl, rfl⟩
 refine j6 (j4 (fun E' w' => ∃ el2 ps0 pl K3, E' = [(6, pt f), (9, .pointer (some ⟨gE, kk.toNat * z6.size, none⟩)), (10, V6 (ps0.length : Int))] ∧ SH w K MM w' K3 (q8 f [sv q2.Text, V6 q2.At] 117 :: q8 i [sv q1] 9 :: q8 g [V3 A b d, V3 (some ⟨gE, 0, none⟩) l m] 46 :: Y2 112 (some ⟨gE, 0, none⟩) l m (pre ++ el2 :: post) :: F6.row 71 el2 :: (pl.item 3 :: (ps0.map (P8.item 3) ++ R))) ∧ H6 K K3 ∧ el2.ok ∧ el2.field = el.field ∧ el2.term = el.term ∧ el2.posts = ps0 ++ [pl] ∧ ps = el2.posts.map P8.x) ?_ ?_)
 ·refine S3 rfl (fun hb => ?_) (fun hb => ?_)
  ·rw [hb] at C
   simp only [i4] at C
   refine sr (mv rfl (mv rfl (lv (v8 rfl) (fa L1 rfl (lv (a2b a2Q rfl rfl hhead rfl (y.hasRow (.tail _ (.tail _ (.tail _ (.head _)))))) (mv rfl (lv (A5 (cs := #[V6 q3, V3 none 0 0]) b9S a1m rfl (by kernel_rfl)) (J1 (t := b4Z 2) (n := 1) (pv := [(0, .agg #[V6 q3, V3 none 0 0])]) (cs := [V6 q3, V3 none 0 0]) (xs := [([V6 q3, V3 none 0 0] : List Value)]) wn rfl underlying57 a1m rfl rfl rfl (by kernel_rfl) rfl rfl (M1 (t := b4Z 2) (u := .agg #[V6 q3, V3 none 0 0]) (z := ([V6 q3, V3 none 0 0] : List Value)) ⟨rfl, rfl, by simp [Value.oneCell']⟩ a2n) y fun bF bG aC bd aD hS22' => ?_))))))))
   obtain ⟨bH, bI, rfl⟩ := b13 aD
   have be := b3J aD
   have bf := hS22'.drop
   unfold L8 at C
   split at C
   case isFalse => cases C
   rename_i hbd
   cases C
   have hbd2 : (el.n + 1) * 32 ≤ 140737488355328 := by rw [henp] at hbd; simp at hbd; rw [hnP]; exact hbd
   refine a5X wn rfl underlying57 a1m rfl rfl rfl (by decide) rfl be (by simp [Value.oneCell']) (by rw [a2g, hnP]) (by omega) hbd2 bf.f4 fun aE c24 bJ bg => (lv (v8 rfl) (fa L1 rfl (b0B wn a2Q rfl rfl rfl bg.f4 (by have := (d5.1 hhead).1; exact this) ?_)))
   intro bh bi
   refine nq (i7 (mv rfl (lv (s6 rfl rfl) (lv (b3O rfl (congrArg (Value.int .i64) (b7a hpl))) (d7 ?_)))))
   obtain ⟨el2, hel2⟩ : ∃ el2 : F6, el2 = ⟨el.field, el.term, el.posts ++ [⟨q3, [], none, 0, 0⟩], some ⟨aE, 0, none⟩, el.n + 1, c24⟩ := ⟨_, rfl⟩
   have hset := b2b (pre := pre) (post := post) (e := el) (e' := el2) (o := kk.toNat * 3 + 2) (by rw [hpre]) (by rw [hel2]) (by rw [hel2])
   have bj : SH w K MM bh aC (Q3 (V3 (some ⟨gE, 0, none⟩) l m) ((pre ++ el2 :: post).flatMap F6.cells) 112 3 :: F6.row 71 el2 :: q8 f [sv q2.Text, V6 q2.At] 117 :: q8 i [sv q1] 9 :: q8 g [V3 A b d, V3 (some ⟨gE, 0, none⟩) l m] 46 :: (el.posts.map (P8.item 3) ++ R)) := by
    have e1 : el2.posts.flatMap P8.cells = el.posts.flatMap P8.cells ++ [V6 q3, V3 none 0 0] := by rw [hel2, List.flatMap_append]; rfl
    have e2 : el2.a = some ⟨aE, 0, none⟩ := by rw [hel2]
    have e3 : el2.n = el.n + 1 := by rw [hel2]
    have e4 : el2.c = c24 := by rw [hel2]
    rw [← hset]
    unfold F6.row
    rw [e1, e2, e3, e4]
    exact bi
   have bk := SH.rowNil bj 3 1
   refine H9 ⟨el2, el.posts, ⟨q3, [], none, 0, 0⟩, aC, rfl, bk.perm ?_, aA.trans bd, ?_, by rw [hel2], by rw [hel2], by rw [hel2], ?_⟩ ⟨rfl, rfl, rfl, trivial⟩
   ·exact (List.Perm.append_left [_, _, _, _, _] (List.Perm.refl _)).trans ((List.perm_middle (l₁ := [_, _, _, _, _])).trans (.cons _ (List.Perm.append_right _ (List.perm_append_comm (l₁ := [_, _, _]) (l₂ := [_, _])))))
   ·rw [hel2]
    refine ⟨helok.1, helok.2.1, fun q hq => ?_⟩
    rcases List.mem_append.1 hq with hq | hq
    ·exact helok.2.2 q hq
    rcases List.mem_singleton.1 hq with rfl
    exact ⟨aL, by simp⟩
   rw [hel2, henp, List.map_append]; rfl
  rw [hb] at C
  simp only [g8] at C
  cases oi C
  refine i6 ?_
  rcases List.eq_nil_or_concat el.posts with hnil | ⟨ps0, p0, hcat⟩
  ·rw [henp, hnil] at hb; cases hb
  rw [List.concat_eq_append] at hcat
  have hlp : el.posts.length = ps0.length + 1 := by rw [hcat]; simp
  have hw : u6 ((el.posts.length : Int) - 1) = (ps0.length : Int) := by rw [a8L hpl, hlp]; omega
  rw [hw]
  refine H9 ⟨el, ps0, p0, D, rfl, ?_, aA, helok, rfl, rfl, hcat, henp⟩ ⟨rfl, rfl, rfl, trivial⟩
  have J := y
  rw [hcat] at J
  exact J.perm (List.Perm.append_left [_, _, _, _, _] (a9m (TI := 3)).symm)
 rintro _ bK ⟨el2, ps0, pl, K3, rfl, ac, bl, hel2ok, hf2, ht2, hcat2, hps⟩
 refine j6 ?_
 have hpx : p = pl.x := by rw [hps, hcat2, List.map_append] at ah; simp at ah; exact ah.symm
 have hn30 : el2.n = el2.posts.length := a9z ac m4
 have bm : n5 el2.posts (ps0.length : Int) = some pl := by rw [hcat2]; exact b09 rfl
 obtain ⟨gP, hgP⟩ := SH.rowI_at ac m4 hn30 bm
 have hpn : pl.n = pl.at_.length := b2d ac m5
 have hhead2 := a9x (pre := pre) (post := post) (e := el2) (o := kk.toNat * 3 + 2) (by rw [hpre])
 have aF : n5 (el2.posts.map P8.x) (ps0.length : Int) = some pl.x := by rw [hcat2, List.map_append]; exact b09 (by simp)
 have hn31 : el2.n = (el2.posts.map P8.x).length := by rw [List.length_map]; exact hn30
 have hat : (el2.posts.flatMap P8.cells)[(ps0.length : Int).toNat * 2 + 1]? = some (V3 pl.a pl.n pl.c) := by rw [hcat2]; exact a9y (k := 1) (by simp)
 have O := ac.drew
 refine wh1 (fun w' => E7 K3 w' ∧ a5K (some ⟨gE, 0, none⟩) ((pre ++ el2 :: post).flatMap F6.cells) w' ∧ y7 f [sv q2.Text, V6 q2.At] w') (fun w' => a5K el2.a (el2.posts.flatMap P8.cells) w') 19 [(12, 16), (16, 19)] mixed ⟨O.hasK kr, O.hasRow m3, O.hasObj m0⟩ (fun _ => O.hasRow (.tail _ (.tail _ (.tail _ (.tail _ (.head _)))))) (gt (d6 rfl) (gt (v8 rfl) (gt (b8 L1 rfl) (gh (fun _ h => a2b a2Q rfl rfl hhead2 rfl h.2.1) (gt (d6 rfl) (gt (d6 rfl) (gt (v8 rfl) (gt (b8 L1 rfl) (gh (fun _ h => a2b a2Q rfl rfl hhead2 rfl h.2.1) ?_)))))))))
 refine gt (d6 rfl) (gt (a2T (t := S1) underlying57 a1m rfl rfl hgP hn31 aF) (gt (b8 a3t rfl) (gf (fun _ h => a2b Y3 rfl rfl hat hgP h) (gt (b8 a1r rfl) (gh (fun _ h => y2 D8 rfl rfl h.2.2) (gn (lb B7 (V6 q2.At) [V6 q2.At] q2.At underlying55 D8 ⟨rfl, ag⟩ O fun bL bM ad ae aG hS35' => ?_)))))))
 obtain ⟨bN, bO, rfl⟩ := b69 aG
 have bn := b6N aG
 have S := hS35'.drop
 refine d7 (qh ⟨S.hasK ae, S.hasRow m3, S.hasObj m0⟩ (fun _ => S.hasRow (.tail _ (.tail _ (.tail _ (.tail _ (.head _)))))) (gn ?_))
 unfold L8 at V
 split at V
 case isFalse => cases V
 rename_i hbd
 cases V
 have hbd2 : (pl.n + 1) * 8 ≤ 140737488355328 := by rw [hpx] at hbd; simp [P8.x] at hbd; rw [hpn]; exact hbd
 refine a5X wn rfl underlying55 D8 rfl rfl rfl (by decide) rfl bn (by simp [Value.oneCell']) (by rw [List.length_map, hpn, Nat.mul_one]) (by omega) hbd2 S.f5 fun aH c37 bP T => (d7 (qh ⟨T.hasK ae, T.hasRow m4, T.hasObj m1⟩ (fun _ => T.hasRow (.tail _ (.tail _ (.tail _ (.tail _ (.tail _ (.head _))))))) (gt (a2T (t := S1) underlying57 a1m rfl rfl hgP hn31 aF) (gt (b8 a3t rfl) (gn ?_)))))
 obtain ⟨fl2, tm2, po2, a2', m2', c2'⟩ := el2
 simp only at hgP hat hcat2 hf2 ht2 hn30
 subst hgP
 refine b0B wn Y3 rfl rfl rfl T.f5 (by have := (d5.1 hat).1; exact this) ?_
 intro ao af
 refine d7 (qh ⟨af.hasK ae, af.hasRow m5, af.hasObj m2⟩ (fun h => nomatch h) (gd' ?_))
 subst hR
 subst hcat2
 obtain ⟨pl2, hpl2⟩ : ∃ pl2 : P8, pl2 = ⟨pl.doc, pl.at_ ++ [q2.At], some ⟨aH, 0, none⟩, pl.n + 1, c37⟩ := ⟨_, rfl⟩
 obtain ⟨el3, hel3⟩ : ∃ el3 : F6, el3 = ⟨fl2, tm2, ps0 ++ [pl2], some ⟨gP, 0, none⟩, m2', c2'⟩ := ⟨_, rfl⟩
 have bo : SH w K MM ao ad (F6.row 71 el3 :: pl2.item 3 :: q8 f [sv q2.Text, V6 q2.At] 117 :: q8 i [sv q1] 9 :: q8 g [V3 A b d, V3 (some ⟨gE, 0, none⟩) l m] 46 :: Y2 112 (some ⟨gE, 0, none⟩) l m (pre ++ el3 :: post) :: (ps0.map (P8.item 3) ++ ((pre).flatMap (F6.items 71 3) ++ (post).flatMap (F6.items 71 3)))) := by
  have e1 := b2f (ps := ps0) (p := pl) (p' := pl2) (o := (ps0.length : Int).toNat * 2 + 1) (by simp) (by rw [hpl2])
  have e2 : pl2.a = some ⟨aH, 0, none⟩ := by rw [hpl2]
  have e3 : pl2.n = pl.n + 1 := by rw [hpl2]
  have e4 : pl2.c = c37 := by rw [hpl2]
  have e5 : pl2.at_.map b0R = pl.at_.map b0R ++ [V6 q2.At] := by rw [hpl2, List.map_append]; rfl
  have e6 : (pre ++ el3 :: post).flatMap F6.cells = (pre ++ ⟨fl2, tm2, ps0 ++ [pl], some ⟨gP, 0, none⟩, m2', c2'⟩ :: post).flatMap F6.cells := by rw [hel3, List.flatMap_append, List.flatMap_append, List.flatMap_cons, List.flatMap_cons]; rfl
  have e7 : F6.row 71 el3 = Q3 (V3 (some ⟨gP, 0, none⟩) m2' c2') ((ps0 ++ [pl2]).flatMap P8.cells) 71 2 := by rw [hel3]; rfl
  rw [e7, ← e1]
  unfold Y2
  rw [e6]
  show SH w K MM ao ad (_ :: Q3 (V3 pl2.a pl2.n pl2.c) (pl2.at_.map b0R) 3 1 :: _)
  rw [e2, e3, e4, e5]
  exact af
 have br := bo.sublist (.cons_cons _ (.cons_cons _ (.cons _ (.cons _ (List.Sublist.refl _)))))
 have hpo3 : el3.posts = ps0 ++ [pl2] := by rw [hel3]
 have bs : SH w K MM ao ad (L0 112 71 3 (some ⟨gE, 0, none⟩) l m (pre ++ el3 :: post) ++ [q8 g [V3 A b d, V3 (some ⟨gE, 0, none⟩) l m] 46]) := by
  refine br.perm ((List.perm_append_singleton _ _).trans ((List.Perm.cons _ (b0u (TE := 112) (TP := 71) (TI := 3))).trans ?_))
  rw [hpo3]
  exact (List.Perm.append_left [_, _, _] (a9m (TI := 3))).trans (List.Perm.append_right _ (List.perm_append_comm (l₁ := [_, _]) (l₂ := [_, _])))
 have bu := bs.packUp.perm (List.Perm.swap _ _ _)
 refine a90 (R8 (vs := []) results116 trivial ⟨A, b, d, some ⟨gE, 0, none⟩, l, m, pre ++ el3 :: post, ad, rfl, bu, aK.mono (bl.trans ae), ?_, ?_⟩)
 ·intro x hx
  rw [hsplit] at hok2
  rcases List.mem_append.1 hx with hx | hx
  ·exact hok2 x (List.mem_append_left _ hx)
  rcases List.mem_cons.1 hx with rfl | hx
  ·rw [hel3, hpl2]
   refine ⟨hel2ok.1, hel2ok.2.1, fun q hq => ?_⟩
   rcases List.mem_append.1 hq with hq | hq
   ·exact hel2ok.2.2 q (List.mem_append_left _ hq)
   rcases List.mem_singleton.1 hq with rfl
   have h8 := hel2ok.2.2 pl (List.mem_append_right _ (List.mem_singleton.2 rfl))
   refine ⟨h8.1, fun z hz => ?_⟩
   rcases List.mem_append.1 hz with hz | hz
   ·exact h8.2 z hz
   rcases List.mem_singleton.1 hz with rfl
   exact ag
  exact hok2 x (List.mem_append_right _ (List.mem_cons_of_mem _ hx))
 show _ = es.set kk.toNat _
 rw [← hes, hsplit, List.map_append, List.map_cons, List.map_append, List.map_cons, List.set_append_right _ _ (by rw [List.length_map, hpre]; exact Nat.le_refl _), List.length_map, hpre, Nat.sub_self, List.set_cons_zero]
 have e1 : el3.x = u9.mk en.Field en.Term (ps.dropLast ++ [D5.mk p.Doc (p.At ++ [q2.At])]) := by
  rw [hel3, hps, hpx, hpl2, ← hel]
  simp [F6.x, P8.x, hf2, ht2]
 rw [e1]

theorem a9T {q0 : List Int} {r : Int} (hS : SH w K [] w K []) (k : b7 B7 K A a b q0) (hm : a1I F q0 = some r) :
  Calls prog 119 #[V3 A a b] w (R_i w K r) := by
 rw [a1I] at hm
 refine ci func119 rfl ntmps119 (sr (lv (L3 rfl) (nr (lv (L3 rfl) (P6 (mv rfl (lv (k9 underlying55 rfl k) (lv (r_m rfl) (nq ?_)))))))))
 obtain ⟨s, x, d⟩ := ob hm
 refine j4 (IE s w K [] K [(3, V6 0)] []) ?_ ?_
 ·refine i5 ?_
  obtain ⟨aa, y, m⟩ := ob x
  refine qf (fun (o : Nat) (q : Unit) => IV w K [] K [(3, V6 0), (6, V3 A a b), (7, V6 (q0.length : Int)), (8, V6 ((o : Nat) : Int))] []) y ⟨K, rfl, hS, kr⟩ ?_ ?_
  ·rintro o q _ B ab hi23 C D ⟨f, rfl, c, i⟩
   refine sr (lv (n8 rfl rfl) (ns (A3 rfl (c7 (by omega)) (i6 (j6 (k8 (i5 (sr ?_))))))))
   obtain ⟨G, H, I⟩ := ob C
   refine li underlying55 D8 (k.mono i) H fun J O ac R S => ?_
   obtain ⟨rfl, T⟩ := R
   have U : D0 _ J O [V6 G] := S
   refine lv (u0 D8 rfl c (U 0 _ rfl)) (av rfl (nr (mv rfl (mv rfl (lv (W3 rfl rfl) (nq (B5 I rfl (fun V l => ?_) (fun V l => ?_))))))))
   ·refine sr (mv rfl (av rfl (nq (i9 (d8 (c9 (c9 ?_)))))))
    cases oi l
    cases D _ rfl
    refine d8 (c9 ?_)
    cases oi m
    refine c9 ?_
    cases oi d
    exact ey results119 ⟨f, rfl, c, T⟩
   refine i6 (o0 (qg (lv (y3 rfl rfl (A0 hi23 (b7.max k))) (mv rfl (d7 ?_)))))
   cases oi l
   exact qd ⟨_, rfl, f, rfl, c, i⟩
  rintro q _ B W ⟨f, rfl, c, i⟩
  subst W
  refine sr (lv (n8 rfl rfl) (ns (A2 rfl (c6 (by omega)) (q7 (d4 (d4 (j5 ?_)))))))
  cases oi m
  exact qd ⟨_, f, rfl, rfl, c, i⟩
 rintro _ ad ⟨s8, X, rfl, rfl, Y, af⟩
 have d := C8 d
 refine qr (mv rfl (av rfl (nq (i9 ?_))))
 cases oi d
 exact ey results119 ⟨X, rfl, Y, I0⟩

theorem a2G {q0 : k6} {r : Bool} (hS : SH w K [] w K []) (a : q0.length ≤ maxLen) (hm : N0 F q0 = some r) :
  Calls prog 168 #[sv q0] w (R_b w K r) := by
 rw [N0] at hm
 refine ci func168 rfl ntmps168 (sr (lv (M7 rfl) (nr (mv rfl (mv rfl (lv (a0o rfl rfl) (av rfl (nq (i9 ?_)))))))))
 cases oi hm
 exact ey results168 ⟨K, rfl, hS⟩

theorem a1Y {q0 : k6} {q1 : k6} {r : Int} (hS : SH w K [] w K []) (m : q0.length ≤ maxLen) (o : q1.length ≤ maxLen) (hm : J8 F q0 q1 = some r) :
  Calls prog 120 #[sv q0, sv q1] w (R_i w K r) := by
 rw [J8] at hm
 refine ci func120 rfl ntmps120 (sr (lv (L3 rfl) (nr (mv rfl ?_))))
 obtain ⟨J, q, s⟩ := ob hm
 refine lk b7v (a2G F hS.enter0 m q) ?_
 rintro O R ⟨S, rfl, x⟩
 have l := (hS.c0 x).t0
 refine av rfl (nr (mv rfl ?_))
 obtain ⟨T, y, A⟩ := ob s
 refine lk b7v (a2G F l.enter0 o y) ?_
 rintro U V ⟨a, rfl, B⟩
 have b := (l.c0 B).t0
 refine av rfl (P6 (mv rfl (nq (B5 A rfl (fun C c => ?_) (fun C c => ?_)))))
 ·refine k8 (sr (mv rfl (nq (B5 c rfl (fun D d => ?_) (fun D d => ?_)))))
  ·refine sr (lv (L3 rfl) (nq (rr (c9 ?_))))
   cases oi d
   exact ey results120 ⟨a, rfl, b, I0⟩
  refine i6 (qr (lv (r9 (v := V6 (-1)) rfl) (nq (rr ?_))))
  cases oi d
  exact ey results120 ⟨a, rfl, b, (by decide : d9 (-1))⟩
 refine i6 (qs (sr (mv rfl (nq (B5 c rfl (fun G f => ?_) (fun G f => ?_))))))
 ·refine sr (lv (r9 (v := V6 1) rfl) (nq (rr ?_)))
  cases oi f
  exact ey results120 ⟨a, rfl, b, (by decide : d9 1)⟩
 refine i6 (qs (sr (mv rfl (mv rfl (lv (b3R rfl rfl) (nq (B5 f rfl (fun H i => ?_) (fun H i => ?_))))))))
 ·refine sr (lv (r9 (v := V6 (-1)) rfl) (nq (rr ?_)))
  cases oi i
  exact ey results120 ⟨a, rfl, b, (by decide : d9 (-1))⟩
 refine i6 (qs (sr (mv rfl (mv rfl (lv (b64 rfl rfl) (nq (B5 i rfl (fun I k => ?_) (fun I k => ?_))))))))
 ·refine sr (lv (r9 (v := V6 1) rfl) (nq (rr ?_)))
  cases oi k
  exact ey results120 ⟨a, rfl, b, (by decide : d9 1)⟩
 refine i6 (qr (lv (L3 rfl) (nq (i9 ?_))))
 cases oi k
 exact ey results120 ⟨a, rfl, b, I0⟩

theorem a73 {q0 : u9} {q1 : u9} {r : Int} (hS : SH w K [] w K []) (H : q0.Field.length ≤ maxLen) (I : q0.Term.length ≤ maxLen) (ah : b7 S1 K A a b q0.Posts) (J : q1.Field.length ≤ maxLen) (O : q1.Term.length ≤ maxLen) (ai : b7 S1 K B c d q1.Posts) (hm : O0 F q0 q1 = some r) :
  Calls prog 118 #[.agg #[sv q0.Field, sv q0.Term, V3 A a b], .agg #[sv q1.Field, sv q1.Term, V3 B c d]] w (R_i w K r) := by
 rw [O0] at hm
 refine ci func118 rfl ntmps118 (sr (bx rfl hS fun y aj R => ?_))
 have S : SH _ _ _ _ _ [q8 y [sv q0.Field, sv q0.Term, V3 A a b] 112] := R
 refine bx rfl S fun C ak T => ?_
 have U : SH _ _ _ _ _ [q8 C [sv q1.Field, sv q1.Term, V3 B c d] 112, _] := T
 refine lv (L3 rfl) (ns ?_)
 have f := U.drew
 refine j_0 (fun w' => E7 K w' ∧ y7 y [sv q0.Field, sv q0.Term, V3 A a b] w' ∧ y7 C [sv q1.Field, sv q1.Term, V3 B c d] w') 13 [] mixed ⟨f.hasK kr, f.hasObj m1, f.hasObj m0⟩ (jv 0 rfl (b8 a0l rfl) (jh 1 rfl (fun _ h => y2 D9 rfl rfl h.2.1) (jv 2 rfl (b8 a0l rfl) (jh 3 rfl (fun _ h => y2 D9 rfl rfl h.2.2) (jv 5 rfl (b8 X5 rfl) (jh 6 rfl (fun _ h => y2 D9 rfl rfl h.2.1) (jv 7 rfl (b8 X5 rfl) (jh 8 rfl (fun _ h => y2 D9 rfl rfl h.2.2) (j1 4 rfl ?_)))))))))
 obtain ⟨i, V, W⟩ := ob hm
 refine lk b7m (a1Y F f.enter0 H J V) ?_
 rintro al am ⟨an, rfl, k, X⟩
 have l := (f.c0 k).t2
 refine W2 ⟨l.hasK k.le, l.hasObj m1, l.hasObj m0⟩ (j1 9 rfl ?_)
 obtain ⟨m, Y, aa⟩ := ob W
 refine lk b7m (a1Y F l.enter0 I O Y) ?_
 rintro ao ap ⟨aq, rfl, q, ab⟩
 have s := (l.c0 q).t2
 refine W2 ⟨s.hasK (k.le.trans q.le), s.hasObj m1, s.hasObj m0⟩ (j1 10 rfl (J1 (t := B7) (n := 2) (pv := [(0, V6 i), (1, V6 m)]) (cs := [V6 i, V6 m]) (xs := [i, m]) wn rfl underlying55 D8 rfl rfl rfl (by kernel_rfl) rfl rfl (M1 (u := V6 i) (z := i) ⟨rfl, X⟩ (M1 (u := V6 m) (z := m) ⟨rfl, ab⟩ a2n)) s fun ar au aw D ac o => (W2 ⟨o.hasK ((k.le.trans q.le).trans D), o.hasObj m2, o.hasObj m1⟩ (j1 11 rfl ?_))))
 obtain ⟨ax, ad, ae⟩ := ob aa
 refine lk b8K (a9T F o.enter0 ac ad) ?_
 rintro ay az ⟨af, rfl, G, ag⟩
 have x := (o.c0 G).t3
 refine W2 ⟨x.hasK (((k.le.trans q.le).trans D).trans G.le), x.hasObj m2, x.hasObj m1⟩ (jv 12 rfl (r9 rfl) (jd (j6 (i9 ?_))))
 cases oi ae
 exact ey results118 ⟨af, rfl, x.s, ag⟩

theorem a5u {q0 : List Int} {q1 : List Int} {r : Bool} (hS : SH w K [] w K []) (i : b7 B7 K A a b q0) (s : b7 B7 K B c d q1) (hm : R3 F q0 q1 = some r) :
  Calls prog 170 #[V3 A a b, V3 B c d] w (R_b w K r) := by
 rw [R3] at hm
 refine ci func170 rfl ntmps170 (sr (lv (M7 rfl) (P6 (mv rfl (lv (k9 underlying55 rfl i) (mv rfl (lv (k9 underlying55 rfl s) (lv (W3 rfl rfl) (nq ?_)))))))))
 refine S3 rfl (fun l => ?_) (fun l => ?_)
 ·have m := a1R l hm
  refine sr (lv (M7 rfl) (nq (rr ?_)))
  cases oi m
  exact ey results170 ⟨K, rfl, hS⟩
 have m := a1Q l hm
 refine i6 (qs (sr (mv rfl (lv (k9 underlying55 rfl i) (lv (r_m rfl) (nq ?_))))))
 obtain ⟨I, J, k⟩ := ob m
 refine j4 (IE I w K [] K [] []) ?_ ?_
 ·refine i5 ?_
  obtain ⟨aq, O, x⟩ := ob J
  refine qf (fun (y : Nat) (C : Unit) => IV w K [] K [(0, V3 A a b), (1, V3 B c d), (12, V6 (q0.length : Int)), (13, V6 ((y : Nat) : Int))] []) O ⟨K, rfl, hS, kr⟩ ?_ ?_
  ·rintro y C _ R ar hi29 S T ⟨D, rfl, o, f⟩
   refine sr (lv (n8 rfl rfl) (ns (A3 rfl (c7 (by omega)) (i6 (j6 (k8 (i5 (sr (mv rfl (av rfl (ns (C2 mixed (by kernel_rfl) o ?_))))))))))))
   refine km rfl (km rfl ?_)
   obtain ⟨U, V, W⟩ := ob S
   refine ki underlying55 D8 (i.mono f) V fun X Y au aa ab => ?_
   obtain ⟨rfl, aw⟩ := aa
   have ac : D0 _ X Y [V6 U] := ab
   refine kh (z8 D8 rfl (ac 0 _ rfl)) (km rfl (km rfl ?_))
   obtain ⟨ad, ae, af⟩ := ob W
   refine ki underlying55 D8 (s.mono f) ae fun ag ah ax ai aj => ?_
   obtain ⟨rfl, ay⟩ := ai
   have ak : D0 _ ag ah [V6 ad] := aj
   refine kh (z8 D8 rfl (ak 0 _ rfl)) (kv (W3 rfl rfl) (z7 ?_))
   rintro az ⟨G, H, al⟩
   refine j6 (B5 af rfl (fun am q => ?_) (fun am q => ?_))
   ·refine sr (lv (M7 rfl) (nq (i9 (d8 (c9 (c9 ?_))))))
    cases oi q
    cases T _ rfl
    refine d8 (c9 ?_)
    cases oi x
    refine c9 ?_
    cases oi k
    exact ey results170 ⟨G, rfl, H⟩
   refine i6 (o0 (qg (lv (y3 rfl rfl (A0 hi29 (b7.max i))) (mv rfl (d7 ?_)))))
   cases oi q
   exact qd ⟨_, rfl, G, rfl, H, (f.trans al)⟩
  rintro C _ R an ⟨D, rfl, o, f⟩
  subst an
  refine sr (lv (n8 rfl rfl) (ns (A2 rfl (c6 (by omega)) (q7 (d4 (d4 (j5 ?_)))))))
  cases oi x
  exact H9 ⟨_, D, rfl, rfl, o, f⟩ trivial
 rintro _ aA ⟨aB, ao, rfl, rfl, ap, aC⟩
 have k := C8 k
 refine qr (lv (r_t rfl) (nq (i9 ?_)))
 cases oi k
 exact ey results170 ⟨ao, rfl, ap⟩

theorem a65 {q0 : D5} {q1 : D5} {r : Bool} (hS : SH w K [] w K []) (J : d9 q0.Doc) (l : b7 B7 K A a b q0.At) (O : d9 q1.Doc) (m : b7 B7 K B c d q1.At) (hm : Y8 F q0 q1 = some r) :
  Calls prog 123 #[.agg #[V6 q0.Doc, V3 A a b], .agg #[V6 q1.Doc, V3 B c d]] w (R_b w K r) := by
 rw [Y8] at hm
 refine ci func123 rfl ntmps123 (sr (bx rfl hS fun o R q => ?_))
 have s : SH _ _ _ _ _ [q8 o [V6 q0.Doc, V3 A a b] 71] := q
 refine bx rfl s fun x S y => ?_
 have i : SH _ _ _ _ _ [q8 x [V6 q1.Doc, V3 B c d] 71, _] := y
 refine lv (M7 rfl) (nr (fl a4E rfl D8 m1 i rfl (fl a4E rfl D8 m0 i rfl (lv (u3 rfl rfl) (mv rfl (bt hm (fun f k => ?_) (fun f k => ?_)))))))
 ·refine lg f (b8 a3t rfl) (lg f (l8 Y3 rfl m1 i rfl) (lg f (b8 a3t rfl) (lg f (l8 Y3 rfl m0 i rfl) ?_)))
  obtain ⟨T, C, D⟩ := ob k
  refine x9 (wg rfl rfl f) rfl (x8 (vs := [V3 A a b, V3 B c d]) b87 rfl) (a5u F i.enter0 l m C) ?_
  rintro U V ⟨G, rfl, H⟩
  refine ⟨_, rfl, ?_⟩
  have I := (i.c0 H).t2
  refine lv (j3 rfl f rfl) (av rfl (nq (i9 ?_)))
  cases oi D
  exact ey results123 ⟨G, rfl, I.s⟩
 iterate 5 refine lu f ?_
 refine lv (F7 rfl f rfl) (av rfl (nq (i9 ?_)))
 cases oi k
 exact ey results123 ⟨K, rfl, i.s⟩

theorem a0q {q0 : List D5} {q1 : List D5} {r : Bool} (hS : SH w K [] w K []) (i : b7 S1 K A a b q0) (O : b7 S1 K B c d q1) (hm : D2 F q0 q1 = some r) :
  Calls prog 122 #[V3 A a b, V3 B c d, .func (.func 123) #[] #[]] w (R_b w K r) := by
 rw [D2] at hm
 refine ci func122 rfl ntmps122 (sr (lv (M7 rfl) (P6 (mv rfl (lv (k9 underlying57 rfl i) (mv rfl (lv (k9 underlying57 rfl O) (lv (W3 rfl rfl) (nq ?_)))))))))
 refine S3 rfl (fun H => ?_) (fun H => ?_)
 ·have I := a1R H hm
  refine sr (lv (M7 rfl) (nq (rr ?_)))
  cases oi I
  exact ey results122 ⟨K, rfl, hS⟩
 have I := a1Q H hm
 refine i6 (qs (sr (mv rfl (lv (k9 underlying57 rfl i) (lv (r_m rfl) (nq ?_))))))
 obtain ⟨aa, ab, k⟩ := ob I
 refine j4 (IE aa w K [] K [] []) ?_ ?_
 ·refine i5 ?_
  obtain ⟨aO, ac, R⟩ := ob ab
  refine qf (fun (S : Nat) (T : Unit) => IV w K [] K [(1, V3 B c d), (2, .func (.func 123) #[] #[]), (15, V3 A a b), (16, V6 (q0.length : Int)), (17, V6 ((S : Nat) : Int))] []) ac ⟨K, rfl, hS, kr⟩ ?_ ?_
  ·rintro S T _ ad aP hi29 ae af ⟨U, rfl, l, f⟩
   refine sr (lv (n8 rfl rfl) (ns (A3 rfl (c7 (by omega)) (i6 (j6 (k8 (i5 (sr (mv rfl ?_)))))))))
   obtain ⟨m, ag, ah⟩ := ob ae
   refine li underlying57 a1m (i.mono f) ag fun ai aj aQ ak am => ?_
   obtain ⟨o, q, s, rfl, an, ao⟩ := ak
   have ap : D0 _ ai aj [V6 m.Doc, V3 o q s] := am
   refine lv (D4 a1m rfl l ap rfl) (al a1m l fun aq aR ar => ?_)
   have au : SH _ _ _ _ _ [q8 aq [V6 0, V3 none 0 0] 71] := ar
   refine av rfl (lw [V6 m.Doc, V3 o q s] a1m au fun aS V => (nr (mv rfl (mv rfl ?_))))
   obtain ⟨x, aw, ax⟩ := ob ah
   refine li underlying57 a1m (O.mono f) aw fun ay az aT aA aB => ?_
   obtain ⟨y, C, D, rfl, aC, aD⟩ := aA
   have aE : D0 _ ay az [V6 x.Doc, V3 y C D] := aB
   refine lv (D4 a1m rfl V aE rfl) (al a1m V fun aF aU aG => ?_)
   have aH : SH _ _ _ _ _ [q8 aF [V6 0, V3 none 0 0] 71, _] := aG
   refine lw [V6 x.Doc, V3 y C D] a1m aH fun aV G => (nr (mv rfl (lv (l3 (ds := [V6 m.Doc, V3 o q s]) a1m rfl m1 G rfl rfl) (lv (l3 (ds := [V6 x.Doc, V3 y C D]) a1m rfl m0 G rfl rfl) ?_))))
   obtain ⟨aW, aI, aJ⟩ := ob ax
   refine x9 wn rfl (a9t (vs := [.agg #[V6 m.Doc, V3 o q s], .agg #[V6 x.Doc, V3 y C D]]) (cap := #[]) b8N rfl rfl) (a65 F G.enter0 an ao aC aD aI) ?_
   rintro aX aY ⟨W, rfl, X⟩
   refine ⟨_, rfl, ?_⟩
   have Y := (G.c0 X).t2
   refine lv (y4 rfl) (nq (B5 aJ rfl (fun aK J => ?_) (fun aK J => ?_)))
   ·refine sr (lv (M7 rfl) (nq (i9 (d8 (c9 (c9 ?_))))))
    cases oi J
    cases af _ rfl
    refine d8 (c9 ?_)
    cases oi R
    refine c9 ?_
    cases oi k
    exact ey results122 ⟨W, rfl, Y.s⟩
   refine i6 (o0 (qg (lv (y3 rfl rfl (A0 hi29 (b7.max i))) (mv rfl (d7 ?_)))))
   cases oi J
   exact qd ⟨_, rfl, W, rfl, Y.s, (f.trans X.le)⟩
  rintro T _ ad aL ⟨U, rfl, l, f⟩
  subst aL
  refine sr (lv (n8 rfl rfl) (ns (A2 rfl (c6 (by omega)) (q7 (d4 (d4 (j5 ?_)))))))
  cases oi R
  exact H9 ⟨_, U, rfl, rfl, l, f⟩ trivial
 rintro _ aZ ⟨ba, aM, rfl, rfl, aN, bb⟩
 have k := C8 k
 refine qr (lv (r_t rfl) (nq (i9 ?_)))
 cases oi k
 exact ey results122 ⟨aM, rfl, aN⟩

theorem a6q {q0 : u9} {q1 : u9} {r : Bool} (hS : SH w K [] w K []) (R : q0.Field.length ≤ maxLen) (S : q0.Term.length ≤ maxLen) (o : b7 S1 K A a b q0.Posts) (T : q1.Field.length ≤ maxLen) (U : q1.Term.length ≤ maxLen) (q : b7 S1 K B c d q1.Posts) (hm : U9 F q0 q1 = some r) :
  Calls prog 72 #[.agg #[sv q0.Field, sv q0.Term, V3 A a b], .agg #[sv q1.Field, sv q1.Term, V3 B c d]] w (R_b w K r) := by
 rw [U9] at hm
 refine ci func72 rfl ntmps72 (sr (bx rfl hS fun s V x => ?_))
 have y : SH _ _ _ _ _ [q8 s [sv q0.Field, sv q0.Term, V3 A a b] 112] := x
 refine bx rfl y fun C W D => ?_
 have f : SH _ _ _ _ _ [q8 C [sv q1.Field, sv q1.Term, V3 B c d] 112, _] := D
 refine lv (M7 rfl) (nr (fl a0l rfl D9 m1 f rfl (fl a0l rfl D9 m0 f rfl (lv (H0 rfl rfl) (mv rfl (bt hm (fun i l => ?_) (fun i l => ?_)))))))
 ·refine lg i (b8 X5 rfl) (lg i (l8 D9 rfl m1 f rfl) (lg i (b8 X5 rfl) (lg i (l8 D9 rfl m0 f rfl) (lg i (H0 rfl rfl) (lv (j3 rfl i rfl) (mv rfl (bt l (fun k m => ?_) (fun k m => ?_))))))))
  ·refine lg k (b8 L1 rfl) (lg k (l8 a2Q rfl m1 f rfl) (lg k (b8 L1 rfl) (lg k (l8 a2Q rfl m0 f rfl) ?_)))
   obtain ⟨X, G, H⟩ := ob m
   refine x9 (wg rfl rfl k) rfl (x8 (vs := [V3 A a b, V3 B c d, .func (.func 123) #[] #[]]) b8M rfl) (a0q F f.enter0 o q G) ?_
   rintro Y aa ⟨I, rfl, J⟩
   refine ⟨_, rfl, ?_⟩
   have O := (f.c0 J).t2
   refine lv (j3 rfl k rfl) (av rfl (nq (i9 ?_)))
   cases oi H
   exact ey results72 ⟨I, rfl, O.s⟩
  iterate 5 refine lu k ?_
  refine lv (F7 rfl k rfl) (av rfl (nq (i9 ?_)))
  cases oi m
  exact ey results72 ⟨K, rfl, f.s⟩
 iterate 5 refine lu i ?_
 refine lv (F7 rfl i rfl) (mv rfl ?_)
 iterate 5 refine lu rfl ?_
 refine lv (F7 rfl rfl rfl) (av rfl (nq (i9 ?_)))
 cases oi l
 exact ey results72 ⟨K, rfl, f.s⟩

theorem a74 {q0 : z2} {q1 : Int} {r : s7 × Bool} (hS : SH w K Z w K [q8 g1 [V3 A a b, V3 B c d] 46]) (W : b7 E1 K A a b q0.Docs) (aO : b7 z6 K B c d q0.Entries) (aP : d9 q1) (hm : R1 F q0 q1 = some r) :
  Calls prog 76 #[.pointer (some ⟨g1, 0, none⟩), V6 q1] w fun e w' => ∃ a_2 n_3 c_4 a_6 n_7 c_8 K', e = .returned (.tuple #[.agg #[V6 r.1.Id, V3 a_2 n_3 c_4, V3 a_6 n_7 c_8], .bool r.2]) ∧ SH w K Z w' K' [q8 g1 [V3 A a b, V3 B c d] 46] ∧ d9 r.1.Id ∧ b7 F3 K' a_2 n_3 c_4 r.1.Fields ∧ b7 G5 K' a_6 n_7 c_8 r.1.Nums := by
 rw [R1] at hm
 refine ci func76 rfl ntmps76 (sr (al C0 hS fun O aQ ao => ?_))
 have ai : SH _ _ _ _ _ [q8 O [V6 0, V3 none 0 0, V3 none 0 0] 54, _] := ao
 refine lv (M7 rfl) (P6 (mv rfl (lv (v8 rfl) (fl a03 rfl a5w m1 ai rfl (lv (k9 underlying35 rfl W) (lv (r_m rfl) (nq ?_)))))))
 obtain ⟨ap, aq, S⟩ := ob hm
 refine j4 (fun E' w' => ∃ i X Y aa ab ac ad k, ap = .inl i ∧ E' = [(0, pt g1), (4, pt O)] ∧ SH w K Z w' k [q8 g1 [V3 A a b, V3 B c d] 46, q8 O [V6 i.Id, V3 X Y aa, V3 ab ac ad] 54] ∧ H6 K k ∧ d9 i.Id ∧ b7 F3 k X Y aa i.Fields ∧ b7 G5 k ab ac ad i.Nums) ?_ ?_
 ·refine i5 ?_
  obtain ⟨aR, ar, aj⟩ := ob aq
  refine qf (fun (ak : Nat) (l : s7) E' w' => ∃ m o q s x y f, E' = [(0, pt g1), (1, V6 q1), (4, pt O), (11, V3 A a b), (12, V6 (q0.Docs.length : Int)), (13, V6 ((ak : Nat) : Int))] ∧ SH w K Z w' f [q8 g1 [V3 A a b, V3 B c d] 46, q8 O [V6 l.Id, V3 m o q, V3 s x y] 54] ∧ H6 K f ∧ d9 l.Id ∧ b7 F3 f m o q l.Fields ∧ b7 G5 f s x y l.Nums) ar ⟨none, 0, 0, none, 0, 0, K, rfl, ai.f1, kr, I0, (b7.nil _ _), (b7.nil _ _)⟩ ?_ ?_
  ·rintro ak l _ au aS hi52 aw ax ⟨m, o, q, s, x, y, f, rfl, T, U, ae, af, ag⟩
   refine sr (lv (n8 rfl rfl) (ns (A3 rfl (c7 (by omega)) (i6 (j6 (k8 (i5 (sr ?_))))))))
   obtain ⟨R, ay, az⟩ := ob aw
   refine li underlying35 C0 (W.mono U) ay fun aA aB aT aC aD => ?_
   obtain ⟨C, D, G, H, I, J, rfl, aE, aF, aG⟩ := aC
   have aH : D0 _ aA aB [V6 R.Id, V3 C D G, V3 H I J] := aD
   refine lv (D4 C0 rfl T aH rfl) (al C0 T fun aI aU aJ => ?_)
   have aK : SH _ _ _ _ _ [q8 aI [V6 0, V3 none 0 0, V3 none 0 0] 54, _, _] := aJ
   refine lw [V6 R.Id, V3 C D G, V3 H I J] C0 aK fun aV V => (nr (fl X7 rfl D8 m0 V rfl (mv rfl (lv (u3 rfl rfl) (nq (B5 az rfl (fun aL ah => ?_) (fun aL ah => ?_)))))))
   ·refine sr (lv (l3 (ds := [V6 R.Id, V3 C D G, V3 H I J]) C0 rfl m0 V rfl rfl) (lw [V6 R.Id, V3 C D G, V3 H I J] C0 V.f2 fun aW am => (lv (r_t rfl) (nq (i9 (d8 (c9 (c9 ?_))))))))
    cases oi ah
    cases ax _ rfl
    refine d8 (c9 ?_)
    cases oi aj
    refine c9 ?_
    cases oi S
    exact R8 (vs := [_, _]) results76 ⟨⟨_, _, rfl, A8 C0 (cs := [V6 R.Id, V3 C D G, V3 H I J]) (fun j c e => by rw [Nat.zero_add, am.mem_obj m0]; exact e) (.inl ⟨rfl, rfl, rfl⟩)⟩, rfl, trivial⟩ ⟨C, D, G, H, I, J, f, rfl, am.s, aE, aF, aG⟩
   refine i6 (o0 (qg (lv (y3 rfl rfl (A0 hi52 (b7.max W))) (mv rfl (d7 ?_)))))
   cases oi ah
   exact qd ⟨_, rfl, m, o, q, s, x, y, f, rfl, V.s, U, ae, af, ag⟩
  rintro l _ au aM ⟨m, o, q, s, x, y, f, rfl, T, U, ae, af, ag⟩
  subst aM
  refine sr (lv (n8 rfl rfl) (ns (A2 rfl (c6 (by omega)) (q7 (d4 (d4 (j5 ?_)))))))
  cases oi aj
  exact qd ⟨_, m, o, q, s, x, y, f, rfl, rfl, T, U, ae, af, ag⟩
 rintro _ aX ⟨i, X, Y, aa, ab, ac, ad, k, rfl, rfl, aN, aY, aZ, ba, bb⟩
 have S := C8 S
 refine qr (lv (A5 (cs := #[V6 0, V3 none 0 0, V3 none 0 0]) a93 C0 rfl (by kernel_rfl)) (lw [V6 0, V3 none 0 0, V3 none 0 0] C0 aN.f1 fun bc an => (lv (M7 rfl) (nq (i9 ?_)))))
 cases oi S
 exact R8 (vs := [_, _]) results76 ⟨⟨_, _, rfl, A8 C0 (cs := [V6 0, V3 none 0 0, V3 none 0 0]) (fun j c e => by rw [Nat.zero_add, an.mem_obj m0]; exact e) (.inl ⟨rfl, rfl, rfl⟩)⟩, rfl, trivial⟩ ⟨none, 0, 0, none, 0, 0, k, rfl, an.s, I0, (b7.nil _ _), (b7.nil _ _)⟩

theorem I3 {q0 : N3} {q1 : k6} {q2 : k6} {r : (List D5)} (hS : SH w K Z w K [q8 g1 [V3 A a b, V3 B c d, V3 C f i, V3 D k l] 123]) (aC : b7 B8 K A a b q0.c_.Stops) (aD : b7 I4 K B c d q0.c_.Syns) (aE : b7 E1 K C f i q0.s_.Docs) (O : b7 z6 K D k l q0.s_.Entries) (aF : q1.length ≤ maxLen) (aG : q2.length ≤ maxLen) (hm : G6 F q0 q1 q2 = some r) :
  Calls prog 75 #[.pointer (some ⟨g1, 2, none⟩), sv q1, sv q2] w fun e w' => ∃ a_1 n_2 c_3 K', e = .returned (V3 a_1 n_2 c_3) ∧ SH w K Z w' K' [q8 g1 [V3 A a b, V3 B c d, V3 C f i, V3 D k l] 123] ∧ b7 S1 K' a_1 n_2 c_3 r := by
 rw [G6] at hm
 refine ci func75 rfl ntmps75 (sr (lv (r_n rfl) (P6 (mv rfl (lv (v8 rfl) (fl G3 rfl W8 m0 hS rfl (lv (k9 underlying44 rfl O) (lv (r_m rfl) (nq ?_)))))))))
 obtain ⟨ab, ac, s⟩ := ob hm
 refine j4 (IE ab w K Z K [(0, .pointer (some ⟨g1, 2, none⟩))] [q8 g1 [V3 A a b, V3 B c d, V3 C f i, V3 D k l] 123]) ?_ ?_
 ·refine i5 ?_
  obtain ⟨aH, ad, W⟩ := ob ac
  refine qf (fun (R : Nat) (X : Unit) => IV w K Z K [(0, .pointer (some ⟨g1, 2, none⟩)), (1, sv q1), (2, sv q2), (12, V3 D k l), (13, V6 (q0.s_.Entries.length : Int)), (14, V6 ((R : Nat) : Int))] [q8 g1 [V3 A a b, V3 B c d, V3 C f i, V3 D k l] 123]) ad ⟨K, rfl, hS, kr⟩ ?_ ?_
  ·rintro R X _ ae aI hi38 af ag ⟨q, rfl, x, y⟩
   refine sr (lv (n8 rfl rfl) (ns (A3 rfl (c7 (by omega)) (i6 (j6 (k8 (i5 (sr ?_))))))))
   obtain ⟨o, ah, ai⟩ := ob af
   refine li underlying44 E3 (O.mono y) ah fun aj ak aJ am an => ?_
   obtain ⟨G, H, I, rfl, aK, aL, ao⟩ := am
   have ap : D0 _ aj ak [sv o.Field, sv o.Term, V3 G H I] := an
   refine lv (D4 E3 rfl x ap rfl) (al E3 x fun S aM aq => ?_)
   have ar : SH _ _ _ _ _ [q8 S [sv [], sv [], V3 none 0 0] 112, _] := aq
   refine lw [sv o.Field, sv o.Term, V3 G H I] E3 ar fun aN J => (ns ?_)
   obtain ⟨au, aw, ax⟩ := ob ai
   refine j4 (IV w K Z q [(0, .pointer (some ⟨g1, 2, none⟩)), (1, sv q1), (2, sv q2), (8, pt S), (12, V3 D k l), (13, V6 (q0.s_.Entries.length : Int)), (14, V6 ((R : Nat) : Int)), (27, .bool au)] [q8 g1 [V3 A a b, V3 B c d, V3 C f i, V3 D k l] 123, q8 S [sv o.Field, sv o.Term, V3 G H I] 112]) ?_ ?_
   ·refine i7 (fl a0l rfl D9 m0 J rfl (mv rfl (lv (H0 rfl rfl) (mv rfl (bt aw (fun m T => ?_) (fun m T => ?_))))))
    ·refine lg m (b8 X5 rfl) (lg m (l8 D9 rfl m0 J rfl) (lg m (d6 rfl) (lg m (H0 rfl rfl) (lv (j3 rfl m rfl) (d7 ?_)))))
     cases oi T
     exact qd ⟨q, rfl, J.f1, kr⟩
    refine lu m (lu m (lu m (lu m (lv (F7 rfl m rfl) (d7 ?_)))))
    cases oi T
    exact qd ⟨q, rfl, J.f1, kr⟩
   rintro _ aO ⟨Y, rfl, U, aa⟩
   refine j6 (B5 ax rfl (fun ay V => ?_) (fun ay V => ?_))
   ·refine sr (fl L1 rfl a2Q m1 U rfl (av rfl (nq (i9 (d8 (c9 (c9 ?_)))))))
    cases oi V
    cases ag _ rfl
    refine d8 (c9 ?_)
    cases oi W
    refine c9 ?_
    cases oi s
    exact ey results75 ⟨G, H, I, Y, rfl, U.s, (ao.mono aa)⟩
   refine i6 (o0 (qg (lv (y3 rfl rfl (A0 hi38 (b7.max O))) (mv rfl (d7 ?_)))))
   cases oi V
   exact qd ⟨_, rfl, Y, rfl, U.s, (y.trans aa)⟩
  rintro X _ ae az ⟨q, rfl, x, y⟩
  subst az
  refine sr (lv (n8 rfl rfl) (ns (A2 rfl (c6 (by omega)) (q7 (d4 (d4 (j5 ?_)))))))
  cases oi W
  exact qd ⟨_, q, rfl, rfl, x, y⟩
 rintro _ aP ⟨aQ, aA, rfl, rfl, aB, aR⟩
 have s := C8 s
 refine qr (lv (r_n rfl) (nq (i9 ?_)))
 cases oi s
 exact ey results75 ⟨none, 0, 0, aA, rfl, aB, (b7.nil _ _)⟩

theorem a0g {q0 : N3} {q1 : k6} {q2 : k6} {q3 : Int} {r : (List Int)} (hS : SH w K Z w K [q8 g1 [V3 A a b, V3 B c d, V3 C f i, V3 D k l] 123]) (V : b7 B8 K A a b q0.c_.Stops) (W : b7 I4 K B c d q0.c_.Syns) (X : b7 E1 K C f i q0.s_.Docs) (Y : b7 z6 K D k l q0.s_.Entries) (aa : q1.length ≤ maxLen) (ab : q2.length ≤ maxLen) (aJ : d9 q3) (hm : H3 F q0 q1 q2 q3 = some r) :
  Calls prog 134 #[.pointer (some ⟨g1, 0, none⟩), sv q1, sv q2, V6 q3] w fun e w' => ∃ a_1 n_2 c_3 K', e = .returned (V3 a_1 n_2 c_3) ∧ SH w K Z w' K' [q8 g1 [V3 A a b, V3 B c d, V3 C f i, V3 D k l] 123] ∧ b7 B7 K' a_1 n_2 c_3 r := by
 rw [H3] at hm
 refine ci func134 rfl ntmps134 (sr (lv (r_n rfl) (P6 (mv rfl (lv (v8 rfl) (fa a3j rfl (mv rfl (mv rfl ?_))))))))
 obtain ⟨ac, ad, ae⟩ := ob hm
 refine lk b6w (I3 F hS.e1 V W X Y aa ab ad) ?_
 rintro aK aL ⟨af, ag, ah, y, rfl, ai, G⟩
 have aj := (hS.c1 ai).t1
 refine lv (k9 underlying57 rfl G) (lv (r_m rfl) (nq ?_))
 obtain ⟨ak, am, m⟩ := ob ae
 refine j4 (IE ak w K Z y [(0, pt g1)] [q8 g1 [V3 A a b, V3 B c d, V3 C f i, V3 D k l] 123]) ?_ ?_
 ·refine i5 ?_
  obtain ⟨aM, an, R⟩ := ob am
  refine qf (fun (S : Nat) (T : Unit) => IV w K Z y [(0, pt g1), (3, V6 q3), (16, V3 af ag ah), (17, V6 (ac.length : Int)), (18, V6 ((S : Nat) : Int))] [q8 g1 [V3 A a b, V3 B c d, V3 C f i, V3 D k l] 123]) an ⟨y, rfl, aj, kr⟩ ?_ ?_
  ·rintro S T _ ao aN hi51 ap aq ⟨o, rfl, q, s⟩
   refine sr (lv (n8 rfl rfl) (ns (A3 rfl (c7 (by omega)) (i6 (j6 (k8 (i5 (sr ?_))))))))
   obtain ⟨U, ar, au⟩ := ob ap
   refine li underlying57 a1m (G.mono s) ar fun aw ax aO ay az => ?_
   obtain ⟨H, I, J, rfl, aP, aA⟩ := ay
   have aB : D0 _ aw ax [V6 U.Doc, V3 H I J] := az
   refine lv (D4 a1m rfl q aB rfl) (al a1m q fun aC aQ aD => ?_)
   have aE : SH _ _ _ _ _ [q8 aC [V6 0, V3 none 0 0] 71, _] := aD
   refine lw [V6 U.Doc, V3 H I J] a1m aE fun aR x => (nr (fl a4E rfl D8 m0 x rfl (mv rfl (lv (u3 rfl rfl) (nq (B5 au rfl (fun aF O => ?_) (fun aF O => ?_)))))))
   ·refine sr (fl a3t rfl Y3 m0 x rfl (av rfl (nq (i9 (d8 (c9 (c9 ?_)))))))
    cases oi O
    cases aq _ rfl
    refine d8 (c9 ?_)
    cases oi R
    refine c9 ?_
    cases oi m
    exact ey results134 ⟨H, I, J, o, rfl, x.s, aA⟩
   refine i6 (o0 (qg (lv (y3 rfl rfl (A0 hi51 (b7.max G))) (mv rfl (d7 ?_)))))
   cases oi O
   exact qd ⟨_, rfl, o, rfl, x.s, s⟩
  rintro T _ ao aG ⟨o, rfl, q, s⟩
  subst aG
  refine sr (lv (n8 rfl rfl) (ns (A2 rfl (c6 (by omega)) (q7 (d4 (d4 (j5 ?_)))))))
  cases oi R
  exact qd ⟨_, o, rfl, rfl, q, s⟩
 rintro _ aS ⟨aT, aH, rfl, rfl, aI, aU⟩
 have m := C8 m
 refine qr (lv (r_n rfl) (nq (i9 ?_)))
 cases oi m
 exact ey results134 ⟨none, 0, 0, aH, rfl, aI, (b7.nil _ _)⟩

theorem a3R {q0 : Int} {r : Bool} (hS : SH w K [] w K []) (a : d9 q0) (hm : Y4 F q0 = some r) :
  Calls prog 164 #[V6 q0] w (R_b w K r) := by
 rw [Y4] at hm
 refine ci func164 rfl ntmps164 (sr (lv (M7 rfl) (nr (mv rfl (mv rfl (lv (W3 rfl rfl) (av rfl (nq (i9 ?_)))))))))
 cases oi hm
 exact ey results164 ⟨K, rfl, hS⟩

theorem a7Y {q0 : Int} {q1 : Int} {r : Bool} (hS : SH w K [] w K []) (l : d9 q0) (m : d9 q1) (hm : U3 F q0 q1 = some r) :
  Calls prog 269 #[V6 q0, V6 q1] w (R_b w K r) := by
 rw [U3] at hm
 refine ci func269 rfl ntmps269 (sr (lv (M7 rfl) (nr (mv rfl ?_))))
 obtain ⟨C, o, q⟩ := ob hm
 refine lk b7u (a3R F hS.enter0 l o) ?_
 rintro D G ⟨s, rfl, x⟩
 have c := (hS.c0 x).t0
 refine mv rfl (bt q (fun a d => ?_) (fun a d => ?_))
 ·refine lg a (d6 rfl) ?_
  obtain ⟨H, y, A⟩ := ob d
  refine x9 (wg rfl rfl a) rfl (x8 (vs := [V6 q1]) b7u rfl) (a3R F c.enter0 m y) ?_
  rintro I J ⟨i, rfl, B⟩
  refine ⟨_, rfl, ?_⟩
  have k := (c.c0 B).t0
  refine lg a (y4 rfl) (lv (j3 rfl a rfl) (mv rfl (bt A (fun b f => ?_) (fun b f => ?_))))
  ·refine lu b (lu b (lu b (lv (K5 rfl b rfl) (av rfl (nq (i9 ?_))))))
   cases oi f
   exact ey results269 ⟨i, rfl, k⟩
  refine lg b (d6 rfl) (lg b (d6 rfl) (lg b (n8 rfl rfl) (lv (j9 rfl b rfl) (av rfl (nq (i9 ?_))))))
  cases oi f
  exact ey results269 ⟨i, rfl, k⟩
 refine lu a (lu a (lu a (lv (F7 rfl a rfl) (mv rfl (lg rfl (d6 rfl) (lg rfl (d6 rfl) (lg rfl (n8 rfl rfl) (lv (j9 rfl rfl rfl) (av rfl ?_)))))))))
 refine nq (i9 ?_)
 cases oi d
 exact ey results269 ⟨s, rfl, c⟩

theorem a2H {q0 : Int} {r : Bool} (hS : SH w K [] w K []) (a : d9 q0) (hm : R4 F q0 = some r) :
  Calls prog 270 #[V6 q0] w (R_b w K r) := by
 rw [R4] at hm
 refine ci func270 rfl ntmps270 (sr (lv (M7 rfl) (nr (mv rfl (mv rfl (lv (W3 rfl rfl) (av rfl (nq (i9 ?_)))))))))
 cases oi hm
 exact ey results270 ⟨K, rfl, hS⟩

theorem a28 {q0 : List Int} {q1 : Int} {r : Int × Bool} (hS : SH w K [] w K []) (k : b7 B7 K A a b q0) (J : d9 q1) (hm : I1 F q0 q1 = some r) :
  Calls prog 259 #[V3 A a b, V6 q1] w fun e w' => ∃ K', e = .returned (.tuple #[V6 r.1, .bool r.2]) ∧ SH w K [] w' K' [] ∧ d9 r.1 := by
 rw [I1] at hm
 refine ci func259 rfl ntmps259 (sr (lv (L3 rfl) (lv (M7 rfl) (nr (mv rfl (lv (k9 underlying55 rfl k) (av rfl (nr (mv rfl ?_)))))))))
 refine lv (L3 rfl) (av rfl (ns ?_))
 obtain ⟨O, X, Y⟩ := ob hm
 refine j4 (IW w K [] K [(0, V3 A a b), (1, V6 q1), (6, V6 (q0.length : Int)), (7, V6 O)] [] (d9 O)) ?_ ?_
 ·refine i5 ?_
  obtain ⟨aX, aa, ab⟩ := ob X
  refine qw (fun (l : Int × Int) => IW w K [] K [(0, V3 A a b), (1, V6 q1), (6, V6 (q0.length : Int)), (7, V6 l.1), (8, V6 l.2)] [] (d9 l.1 ∧ d9 l.2)) aa ⟨K, rfl, hS, kr, I0, k.rn⟩ ?_
  rintro l _ aY aZ ac ad ⟨ae, rfl, m, o, R, af⟩
  refine k8 (sr (mv rfl (mv rfl (lv (n8 rfl rfl) (nq (B5 ac rfl (fun ag s => ?_) (fun ag s => ?_)))))))
  ·refine i6 (j6 (i5 (sr (mv rfl (mv rfl (lv (s6 rfl rfl) ?_))))))
   obtain ⟨ba, x, ah⟩ := ob s
   refine lv (b8u underlying3 underlying200 rfl (l9 _) x) ?_
   obtain ⟨bb, y, ai⟩ := ob ah
   refine lv (b65 rfl rfl y) (lv (b8w underlying200 underlying3 rfl (b3M (b0Y (l9 _) x).2.2 y)) (av rfl (nr (mv rfl (mv rfl ?_)))))
   obtain ⟨aj, ak, al⟩ := ob ai
   refine li underlying55 D8 (k.mono o) ak fun am an bc ao ap => ?_
   obtain ⟨rfl, aq⟩ := ao
   have ar : D0 _ am an [V6 aj] := ap
   refine lv (u0 D8 rfl m (ar 0 _ rfl)) (mv rfl ?_)
   obtain ⟨bd, au, aw⟩ := ob al
   refine lk b9B (a7Y F m.enter0 aq J au) ?_
   rintro be bf ⟨S, rfl, B⟩
   have T := (m.c0 B).t0
   refine nq (B5 aw rfl (fun ax C => ?_) (fun ax C => ?_))
   ·refine i7 (mv rfl (lv (s6 rfl rfl) (av rfl (nb ?_))))
    cases oi C
    exact qd ⟨_, rfl, S, rfl, T, (o.trans B.le), (l9 _), af⟩
   refine i7 (mv rfl (av rfl (nb ?_)))
   cases oi C
   exact qd ⟨_, rfl, S, rfl, T, (o.trans B.le), R, (b3M (b0Y (l9 _) x).2.2 y)⟩
  refine q7 (d4 (d4 ?_))
  cases oi s
  cases ad _ rfl
  refine j5 ?_
  cases oi ab
  exact qd ⟨ae, rfl, m, o, R⟩
 rintro _ bg ⟨U, rfl, i, V, q⟩
 refine qr (mv rfl (mv rfl (mv rfl (lv (n8 rfl rfl) (mv rfl (bt Y (fun c D => ?_) (fun c D => ?_)))))))
 ·refine lg c (d6 rfl) (lg c (d6 rfl) ?_)
  obtain ⟨ay, az, aA⟩ := ob D
  refine H1 (t := B7) (wg rfl rfl c) rfl underlying55 D8 rfl rfl (k.mono V) az fun aB aC bh aD aE => ?_
  obtain ⟨rfl, bi⟩ := aD
  have aF : D0 _ aB aC [V6 ay] := aE
  refine lg c (u0 D8 rfl i (aF 0 _ rfl)) (lg c (d6 rfl) (lg c (u3 rfl rfl) (lg c (d6 rfl) (bt aA (fun d G => ?_) (fun d G => ?_)))))
  ·iterate 6 refine lu d ?_
   refine u1 (uu rfl rfl) rfl (u1 (uu rfl rfl) rfl (lu d (lg c (K5 rfl d rfl) (lv (j3 rfl c rfl) (av rfl (av rfl (nq (i9 ?_))))))))
   cases oi G
   exact R8 (vs := [_, _]) results259 ⟨rfl, rfl, trivial⟩ ⟨U, rfl, i, q⟩
  refine lg d (d6 rfl) (lg d (d6 rfl) ?_)
  obtain ⟨W, aG, aH⟩ := ob G
  refine H1 (t := B7) (wg rfl rfl d) rfl underlying55 D8 rfl rfl (k.mono V) aG fun aI aJ bj aK aL => ?_
  obtain ⟨rfl, aM⟩ := aK
  have aN : D0 _ aI aJ [V6 W] := aL
  refine lg d (u0 D8 rfl i (aN 0 _ rfl)) ?_
  obtain ⟨bk, aO, aP⟩ := ob aH
  refine x9 (wg rfl rfl d) rfl (x8 (vs := [V6 W]) b7F rfl) (a2H F i.enter0 aM aO) ?_
  rintro bl bm ⟨aQ, rfl, aR⟩
  refine ⟨_, rfl, ?_⟩
  have H := (i.c0 aR).t0
  refine lg d (d6 rfl) (bt aP (fun f I => ?_) (fun f I => ?_))
  ·refine lg f (d6 rfl) ?_
   obtain ⟨bn, aS, aT⟩ := ob I
   refine x9 (wg rfl rfl f) rfl (x8 (vs := [V6 q1]) b7F rfl) (a2H F H.enter0 J aS) ?_
   rintro bo bp ⟨aU, rfl, aV⟩
   refine ⟨_, rfl, ?_⟩
   have aW := (H.c0 aV).t0
   refine lg d (j3 rfl f rfl) (lg c (j9 rfl d rfl) (lv (j3 rfl c rfl) (av rfl (av rfl (nq (i9 ?_))))))
   cases oi aT
   exact R8 (vs := [_, _]) results259 ⟨rfl, rfl, trivial⟩ ⟨aU, rfl, aW, q⟩
  refine lu f (lu f (lg d (F7 rfl f rfl) (lg c (j9 rfl d rfl) (lv (j3 rfl c rfl) (av rfl (av rfl (nq (i9 ?_))))))))
  cases oi I
  exact R8 (vs := [_, _]) results259 ⟨rfl, rfl, trivial⟩ ⟨aQ, rfl, H, q⟩
 iterate 7 refine lu c ?_
 refine u1 (uu rfl rfl) rfl (u1 (uu rfl rfl) rfl (u1 (uu rfl rfl) rfl (u1 (uu rfl rfl) rfl (u1 (uu rfl rfl) rfl (u1 (uu rfl rfl) rfl (u1 (uu rfl rfl) rfl (u1 (uu rfl rfl) rfl (u1 (uu rfl rfl) rfl (lu c ?_)))))))))
 refine lv (F7 rfl c rfl) (av rfl (av rfl (nq (i9 ?_))))
 cases oi D
 exact R8 (vs := [_, _]) results259 ⟨rfl, rfl, trivial⟩ ⟨U, rfl, i, q⟩

theorem b01 {q0 : List Int} {q1 : Int} {r : Int × Bool} (hS : SH w K [] w K []) (c : b7 B7 K A a b q0) (l : d9 q1) (hm : a2t F q0 q1 = some r) :
  Calls prog 228 #[V3 A a b, V6 q1] w fun e w' => ∃ K', e = .returned (.tuple #[V6 r.1, .bool r.2]) ∧ SH w K [] w' K' [] ∧ d9 r.1 := by
 rw [a2t] at hm
 refine ci func228 rfl ntmps228 (sr (lv (L3 rfl) (lv (M7 rfl) (nr (mv rfl (mv rfl ?_))))))
 obtain ⟨J, m, o⟩ := ob hm
 refine lk b9z (a28 F hS.enter0 c l m) ?_
 rintro O R ⟨k, rfl, d, S⟩
 have f := (hS.c0 d).t0
 refine mv rfl (lv (B3 rfl rfl) (lv (B3 rfl rfl) (av rfl (av rfl (P6 (mv rfl (mv rfl (lv (k9 underlying55 rfl (c.mono d.le)) (lv (u3 rfl rfl) ?_)))))))))
 refine nq (B5 o rfl (fun q i => ?_) (fun q i => ?_))
 ·refine sr (lv (L3 rfl) (lv (M7 rfl) (nq (rr ?_))))
  cases oi i
  exact R8 (vs := [_, _]) results228 ⟨rfl, rfl, trivial⟩ ⟨k, rfl, f, I0⟩
 refine i6 (qr (mv rfl (mv rfl ?_)))
 obtain ⟨s, x, y⟩ := ob i
 refine li underlying55 D8 (c.mono d.le) x fun B C T D G => ?_
 obtain ⟨rfl, H⟩ := D
 have I : D0 _ B C [V6 s] := G
 refine lv (u0 D8 rfl f (I 0 _ rfl)) (av rfl (lv (r_t rfl) (nq (i9 ?_))))
 cases oi y
 exact R8 (vs := [_, _]) results228 ⟨rfl, rfl, trivial⟩ ⟨k, rfl, f, H⟩

theorem a5T {q0 : List Int} {q1 : List Int} {r : Bool} (hS : SH w K [] w K []) (k : b7 B7 K A a b q0) (x : b7 B7 K B c d q1) (hm : O6 F q0 q1 = some r) :
  Calls prog 177 #[V3 A a b, V3 B c d] w (R_b w K r) := by
 rw [O6] at hm
 refine ci func177 rfl ntmps177 (sr (lv (M7 rfl) (P6 (mv rfl (lv (k9 underlying55 rfl k) (mv rfl (lv (k9 underlying55 rfl x) (lv (W3 rfl rfl) (nq ?_)))))))))
 refine S3 rfl (fun l => ?_) (fun l => ?_)
 ·have m := a1R l hm
  refine sr (lv (M7 rfl) (nq (rr ?_)))
  cases oi m
  exact ey results177 ⟨K, rfl, hS⟩
 have m := a1Q l hm
 refine i6 (qs (sr (lv (L3 rfl) (nq ?_))))
 obtain ⟨I, J, i⟩ := ob m
 refine j4 (IE I w K [] K [] []) ?_ ?_
 ·refine i5 ?_
  obtain ⟨ap, O, y⟩ := ob J
  refine qw (fun (o : Int) => IW w K [] K [(0, V3 A a b), (1, V3 B c d), (5, V6 o)] [] (d9 o)) O ⟨K, rfl, hS, kr, I0⟩ ?_
  rintro o _ aq ar R C ⟨S, rfl, D, f, au⟩
  refine k8 (sr (mv rfl (mv rfl (lv (k9 underlying55 rfl (k.mono f)) (lv (n8 rfl rfl) (nq (B5 R rfl (fun T q => ?_) (fun T q => ?_))))))))
  ·refine i6 (qs (i5 (k8 (C2 mixed (by kernel_rfl) D (km rfl (km rfl ?_))))))
   obtain ⟨U, V, W⟩ := ob q
   refine ki underlying55 D8 (k.mono f) V fun X Y aw aa ab => ?_
   obtain ⟨rfl, ax⟩ := aa
   have ac : D0 _ X Y [V6 U] := ab
   refine kh (z8 D8 rfl (ac 0 _ rfl)) (km rfl (km rfl ?_))
   obtain ⟨ad, ae, af⟩ := ob W
   refine ki underlying55 D8 (x.mono f) ae fun ag ah ay ai aj => ?_
   obtain ⟨rfl, az⟩ := ai
   have ak : D0 _ ag ah [V6 ad] := aj
   refine kh (z8 D8 rfl (ak 0 _ rfl)) (kv (W3 rfl rfl) (z7 ?_))
   rintro aA ⟨G, H, al⟩
   refine j6 (B5 af rfl (fun am s => ?_) (fun am s => ?_))
   ·refine sr (lv (M7 rfl) (nq (i9 (d8 (c9 (c9 ?_))))))
    cases oi s
    cases C _ rfl
    refine d8 (c9 ?_)
    cases oi y
    refine c9 ?_
    cases oi i
    exact ey results177 ⟨G, rfl, H⟩
   refine i6 (o0 (j6 (i7 (mv rfl (lv (s6 rfl rfl) (av rfl (d7 ?_)))))))
   cases oi s
   exact qd ⟨_, rfl, G, rfl, H, (f.trans al), (l9 _)⟩
  refine q7 (d4 (d4 ?_))
  cases oi q
  cases C _ rfl
  refine j5 ?_
  cases oi y
  exact H9 ⟨_, S, rfl, rfl, D, f⟩ trivial
 rintro _ aB ⟨aC, an, rfl, rfl, ao, aD⟩
 have i := C8 i
 refine qr (lv (r_t rfl) (nq (i9 ?_)))
 cases oi i
 exact ey results177 ⟨an, rfl, ao⟩

theorem a5v {q0 : u9} {q1 : u9} {r : Bool} (hS : SH w K [] w K []) (bF : q0.Field.length ≤ maxLen) (bG : q0.Term.length ≤ maxLen) (x : b7 S1 K A a b q0.Posts) (bH : q1.Field.length ≤ maxLen) (bI : q1.Term.length ≤ maxLen) (G : b7 S1 K B c d q1.Posts) (hm : R5 F q0 q1 = some r) :
  Calls prog 129 #[.agg #[sv q0.Field, sv q0.Term, V3 A a b], .agg #[sv q1.Field, sv q1.Term, V3 B c d]] w (R_b w K r) := by
 rw [R5] at hm
 refine ci func129 rfl ntmps129 (sr (bx rfl hS fun m bJ ac => ?_))
 have ad : SH _ _ _ _ _ [q8 m [sv q0.Field, sv q0.Term, V3 A a b] 112] := ac
 refine bx rfl ad fun o bK ae => ?_
 have k : SH _ _ _ _ _ [q8 o [sv q1.Field, sv q1.Term, V3 B c d] 112, _] := ae
 refine lv (M7 rfl) (ns (k8 ?_))
 obtain ⟨af, ag, ah⟩ := ob hm
 refine j4 (IV w K [] K [(2, pt m), (3, pt o), (26, .bool af)] [q8 m [sv q0.Field, sv q0.Term, V3 A a b] 112, q8 o [sv q1.Field, sv q1.Term, V3 B c d] 112]) ?_ ?_
 ·refine i7 (fl a0l rfl D9 m1 k rfl (fl a0l rfl D9 m0 k rfl (lv (a0o rfl rfl) (mv rfl (bt ag (fun l H => ?_) (fun l H => ?_))))))
  ·iterate 5 refine lu l ?_
   refine lv (K5 rfl l rfl) (mv rfl ?_)
   iterate 7 refine lu rfl ?_
   refine lv (K5 rfl rfl rfl) (d7 ?_)
   cases oi H
   exact qd ⟨K, rfl, k.f1, kr⟩
  refine lg l (b8 X5 rfl) (lg l (l8 D9 rfl m1 k rfl) (lg l (b8 X5 rfl) (lg l (l8 D9 rfl m0 k rfl) (lg l (a0o rfl rfl) (lv (j9 rfl l rfl) (mv rfl (bt H (fun i I => ?_) (fun i I => ?_))))))))
  ·iterate 7 refine lu i ?_
   refine lv (K5 rfl i rfl) (d7 ?_)
   cases oi I
   exact qd ⟨K, rfl, k.f1, kr⟩
  refine lg i (b8 L1 rfl) (lg i (l8 a2Q rfl m1 k rfl) (lg i (k9 underlying57 rfl x) (lg i (b8 L1 rfl) (lg i (l8 a2Q rfl m0 k rfl) (lg i (k9 underlying57 rfl G) (lg i (W3 rfl rfl) (lv (j9 rfl i rfl) (d7 ?_))))))))
  cases oi I
  exact qd ⟨K, rfl, k.f1, kr⟩
 rintro _ bL ⟨y, rfl, U, s⟩
 refine j6 (B5 ah rfl (fun ai J => ?_) (fun ai J => ?_))
 ·refine sr (lv (M7 rfl) (nq (rr ?_)))
  cases oi J
  exact ey results129 ⟨y, rfl, U.s⟩
 refine i6 (qs (sr (lv (L3 rfl) (nq ?_))))
 obtain ⟨aj, ak, C⟩ := ob J
 refine j4 (IE aj w K [] y [] []) ?_ ?_
 ·refine i5 ?_
  obtain ⟨bM, al, V⟩ := ob ak
  refine qw (fun (D : Int) => IW w K [] y [(2, pt m), (3, pt o), (5, V6 D)] [q8 m [sv q0.Field, sv q0.Term, V3 A a b] 112, q8 o [sv q1.Field, sv q1.Term, V3 B c d] 112] (d9 D)) al ⟨y, rfl, U, kr, I0⟩ ?_
  rintro D _ bN bO am W ⟨X, rfl, O, q, bP⟩
  refine k8 (sr (mv rfl (fl L1 rfl a2Q m0 O rfl (lv (k9 underlying57 rfl (x.mono (s.trans q))) (lv (n8 rfl rfl) (nq (B5 am rfl (fun an R => ?_) (fun an R => ?_))))))))
  ·refine i6 (qs (i5 (k8 ?_)))
   obtain ⟨ao, ap, aq⟩ := ob R
   refine j4 (IV w K [] X [(2, pt m), (3, pt o), (5, V6 D), (62, .bool ao)] [q8 m [sv q0.Field, sv q0.Term, V3 A a b] 112, q8 o [sv q1.Field, sv q1.Term, V3 B c d] 112]) ?_ ?_
   ·refine C2 mixed (by kernel_rfl) O (kv (b8 L1 rfl) (kh (u2 a2Q rfl m0 rfl) (km rfl ?_)))
    obtain ⟨ar, au, aw⟩ := ob ap
    refine ki underlying57 a1m (x.mono (s.trans q)) au fun ax ay bQ az aA => ?_
    obtain ⟨aB, aC, aD, rfl, bR, bS⟩ := az
    have aE : D0 _ ax ay [V6 ar.Doc, V3 aB aC aD] := aA
    refine kv (b8 a4E rfl) (kh (z8 D8 rfl (aE 0 _ rfl)) (kv (b8 L1 rfl) (kh (u2 a2Q rfl m1 rfl) (km rfl ?_))))
    obtain ⟨aF, aG, aH⟩ := ob aw
    refine ki underlying57 a1m (G.mono (s.trans q)) aG fun aI aJ bT aK aL => ?_
    obtain ⟨aM, aN, aO, rfl, bU, bV⟩ := aK
    have aP : D0 _ aI aJ [V6 aF.Doc, V3 aM aN aO] := aL
    refine kv (b8 a4E rfl) (kh (z8 D8 rfl (aP 0 _ rfl)) (kv (W3 rfl rfl) (km rfl (bt aH (fun f S => ?_) (fun f S => ?_)))))
    ·iterate 14 refine kn f ?_
     refine kv (K5 rfl f rfl) (z7 ?_)
     rintro bW ⟨aQ, aR, aS⟩
     cases oi S
     exact qd ⟨aQ, rfl, aR, aS⟩
    refine kg f (b8 L1 rfl) (kgh f (u2 a2Q rfl m0 rfl) (kg f (d6 rfl) ?_))
    obtain ⟨aT, aU, aV⟩ := ob S
    refine B4 (t := S1) (wg rfl rfl f) rfl underlying57 a1m rfl rfl (x.mono (s.trans q)) aU fun aW aX bX aY aZ => ?_
    obtain ⟨ba, bb, bc, rfl, bY, bd⟩ := aY
    have be : D0 _ aW aX [V6 aT.Doc, V3 ba bb bc] := aZ
    refine kg f (b8 a3t rfl) (kgh f (z8 Y3 rfl (be 1 _ rfl)) (kg f (b8 L1 rfl) (kgh f (u2 a2Q rfl m1 rfl) (kg f (d6 rfl) ?_))))
    obtain ⟨bf, bg, bh⟩ := ob aV
    refine B4 (t := S1) (wg rfl rfl f) rfl underlying57 a1m rfl rfl (G.mono (s.trans q)) bg fun bi bj bZ bk bl => ?_
    obtain ⟨bm, bn, bo, rfl, ca, bp⟩ := bk
    have bq : D0 _ bi bj [V6 bf.Doc, V3 bm bn bo] := bl
    refine kg f (b8 a3t rfl) (kgh f (z8 Y3 rfl (bq 1 _ rfl)) ?_)
    obtain ⟨cb, br, bs⟩ := ob bh
    refine kcg f b9d (fun _ _ bu Y => (a5T F) bu.enter0 (bd.mono Y) (bp.mono Y) br) (kg f (y4 rfl) (kv (j9 rfl f rfl) (z7 ?_)))
    rintro cc ⟨bv, bz, bA⟩
    cases oi bs
    exact qd ⟨bv, rfl, bz, bA⟩
   rintro _ cd ⟨aa, rfl, ab, bB⟩
   refine j6 (B5 aq rfl (fun bC T => ?_) (fun bC T => ?_))
   ·refine sr (lv (M7 rfl) (nq (i9 (d8 (c9 (c9 ?_))))))
    cases oi T
    cases W _ rfl
    refine d8 (c9 ?_)
    cases oi V
    refine c9 ?_
    cases oi C
    exact ey results129 ⟨aa, rfl, ab.s⟩
   refine i6 (o0 (j6 (i7 (mv rfl (lv (s6 rfl rfl) (av rfl (d7 ?_)))))))
   cases oi T
   exact qd ⟨_, rfl, aa, rfl, ab, (q.trans bB), (l9 _)⟩
  refine q7 (d4 (d4 ?_))
  cases oi R
  cases W _ rfl
  refine j5 ?_
  cases oi V
  exact H9 ⟨_, X, rfl, rfl, O.s, q⟩ trivial
 rintro _ ce ⟨cf, bD, rfl, rfl, bE, cg⟩
 have C := C8 C
 refine qr (lv (r_t rfl) (nq (i9 ?_)))
 cases oi C
 exact ey results129 ⟨bD, rfl, bE⟩

theorem a4U {q0 : z2} {q1 : Int} {r : s7} (hS : SH w K [] w K []) (I : b7 E1 K A a b q0.Docs) (ba : b7 z6 K B c d q0.Entries) (bb : d9 q1) (hm : a0c F q0 q1 = some r) :
  Calls prog 95 #[.agg #[V3 A a b, V3 B c d], V6 q1] w fun e w' => ∃ a_2 n_3 c_4 a_6 n_7 c_8 K', e = .returned (.agg #[V6 r.Id, V3 a_2 n_3 c_4, V3 a_6 n_7 c_8]) ∧ SH w K [] w' K' [] ∧ d9 r.Id ∧ b7 F3 K' a_2 n_3 c_4 r.Fields ∧ b7 G5 K' a_6 n_7 c_8 r.Nums := by
 rw [a0c] at hm
 refine ci func95 rfl ntmps95 (sr (bx rfl hS fun J bc ao => ?_))
 have ap : SH _ _ _ _ _ [q8 J [V3 A a b, V3 B c d] 46] := ao
 refine al C0 ap fun o bd aq => ?_
 have ar : SH _ _ _ _ _ [q8 o [V6 0, V3 none 0 0, V3 none 0 0] 54, _] := aq
 refine P6 (lv (L3 rfl) (nq ?_))
 obtain ⟨au, aw, H⟩ := ob hm
 refine j4 (fun E' w' => ∃ l O R S T U V m, au = .inl l ∧ E' = [(4, pt o)] ∧ SH w K [] w' m [q8 o [V6 l.Id, V3 O R S, V3 T U V] 54] ∧ H6 K m ∧ d9 l.Id ∧ b7 F3 m O R S l.Fields ∧ b7 G5 m T U V l.Nums) ?_ ?_
 ·refine i5 ?_
  obtain ⟨be, ax, af⟩ := ob aw
  refine qw (fun (k : Int × s7) E' w' => ∃ q s x y C D f, E' = [(1, V6 q1), (2, pt J), (4, pt o), (5, V6 k.1)] ∧ SH w K [] w' f [q8 J [V3 A a b, V3 B c d] 46, q8 o [V6 k.2.Id, V3 q s x, V3 y C D] 54] ∧ H6 K f ∧ d9 k.1 ∧ d9 k.2.Id ∧ b7 F3 f q s x k.2.Fields ∧ b7 G5 f y C D k.2.Nums) ax ⟨none, 0, 0, none, 0, 0, K, rfl, ar.f1, kr, I0, I0, (b7.nil _ _), (b7.nil _ _)⟩ ?_
  rintro k _ bf bg ay ag ⟨q, s, x, y, C, D, f, rfl, i, G, bh, ah, ai, aj⟩
  refine k8 (sr (mv rfl (fl a03 rfl a5w m0 i rfl (lv (k9 underlying35 rfl (I.mono G)) (lv (n8 rfl rfl) (nq (B5 ay rfl (fun az W => ?_) (fun az W => ?_))))))))
  ·refine i6 (qs (i5 (sr (fl a03 rfl a5w m0 i rfl (mv rfl ?_)))))
   obtain ⟨aA, aB, aC⟩ := ob W
   refine li underlying35 C0 (I.mono G) aB fun aD aE bi aF aG => ?_
   obtain ⟨aH, aI, aJ, aK, aL, aM, rfl, bj, bk, bl⟩ := aF
   have aN : D0 _ aD aE [V6 aA.Id, V3 aH aI aJ, V3 aK aL aM] := aG
   refine fa X7 rfl (lv (u0 D8 rfl i (aN 0 _ rfl)) (mv rfl (lv (u3 rfl rfl) (nq (B5 aC rfl (fun aO X => ?_) (fun aO X => ?_))))))
   ·refine sr (fl a03 rfl a5w m0 i rfl (mv rfl ?_))
    obtain ⟨ak, aP, aQ⟩ := ob X
    refine li underlying35 C0 (I.mono G) aP fun aR aS bm aT aU => ?_
    obtain ⟨Y, aa, ab, ac, ad, ae, rfl, aV, aW, aX⟩ := aT
    have aY : D0 _ aR aS [V6 ak.Id, V3 Y aa ab, V3 ac ad ae] := aU
    refine lv (D4 C0 rfl i aY rfl) (lw [V6 ak.Id, V3 Y aa ab, V3 ac ad ae] C0 i.f1 fun bn am => (nq (i9 (d8 (c9 (c9 ?_))))))
    cases oi aQ
    cases ag _ rfl
    refine d8 (c9 ?_)
    cases oi af
    refine c9 ?_
    cases oi H
    exact ez results95 C0 am m0 ⟨Y, aa, ab, ac, ad, ae, f, rfl, am.s, aV, aW, aX⟩
   refine i6 (o0 (j6 (i7 (mv rfl (lv (s6 rfl rfl) (av rfl (d7 ?_)))))))
   cases oi X
   exact qd ⟨_, rfl, q, s, x, y, C, D, f, rfl, i, G, (l9 _), ah, ai, aj⟩
  refine q7 (d4 (d4 ?_))
  cases oi W
  cases ag _ rfl
  refine j5 ?_
  cases oi af
  exact qd ⟨_, q, s, x, y, C, D, f, rfl, rfl, i.s, G, ah, ai, aj⟩
 rintro _ bo ⟨l, O, R, S, T, U, V, m, rfl, rfl, aZ, bp, bq, br, bs⟩
 have H := C8 H
 refine qr (lv (A5 (cs := #[V6 0, V3 none 0 0, V3 none 0 0]) a93 C0 rfl (by kernel_rfl)) (lw [V6 0, V3 none 0 0, V3 none 0 0] C0 aZ fun bu an => (nq (i9 ?_))))
 cases oi H
 exact ez results95 C0 an m0 ⟨none, 0, 0, none, 0, 0, m, rfl, an.s, I0, (b7.nil _ _), (b7.nil _ _)⟩

theorem a4l {q0 : Bool} {r : Int} (hS : SH w K [] w K []) (hm : V2 F q0 = some r) :
  Calls prog 150 #[.bool q0] w (R_i w K r) := by
 rw [V2] at hm
 refine ci func150 rfl ntmps150 (sr (lv (L3 rfl) (P6 (mv rfl (nq (S3 rfl (fun a => ?_) (fun a => ?_)))))))
 ·have b := a1R a hm
  refine sr (lv (r9 (v := V6 100) rfl) (nq (rr ?_)))
  cases oi b
  exact ey results150 ⟨K, rfl, hS, (by decide : d9 100)⟩
 have b := a1Q a hm
 refine i6 (qr (lv (L3 rfl) (nq (i9 ?_))))
 cases oi b
 exact ey results150 ⟨K, rfl, hS, I0⟩

theorem a8m {q0 : List UInt8} {r : u5} (hS : SH w K [] w K []) (c : b7 tU8 K A a b q0) (hm : a0E F q0 = some r) :
  Calls prog 52 #[V3 A a b] w fun e w' => ∃ g_1 a_2 n_3 c_4 K', e = .returned (.pointer (some ⟨g_1, 0, none⟩)) ∧ SH w K [] w' K' [q8 g_1 [V3 a_2 n_3 c_4, V6 r.p_] 145] ∧ b7 tU8 K' a_2 n_3 c_4 r.b_ ∧ d9 r.p_ := by
 rw [a0E] at hm
 refine ci func52 rfl ntmps52 (sr (lv (r9 (v := .pointer none) rfl) (P6 (mv rfl (lv (k9 underlying22 rfl c) (lv (E5 rfl rfl) (nq (S3 rfl (fun d => ?_) (fun d => ?_)))))))))
 ·have f := a1R d hm
  refine i7 (mv rfl ?_)
  obtain ⟨G, q, s⟩ := ob f
  refine b1k (t := tU8) wn rfl underlying22 tf5 rfl rfl c q fun i k l x => (av rfl (nr (mv rfl (lv (A5 (cs := #[V3 i k l, V6 0]) b7L b7P rfl (by kernel_rfl)) (bx rfl hS fun m H y => ?_)))))
  have B : SH _ _ _ _ _ [q8 m [V3 i k l, V6 0] 145] := y
  refine av rfl (nq (i9 ?_))
  cases oi s
  exact ey results52 ⟨m, i, k, l, K, rfl, B, x, I0⟩
 have f := a1Q d hm
 refine i6 (qr (mv rfl (lv (A5 (cs := #[V3 A a b, V6 0]) b7L b7P rfl (by kernel_rfl)) (bx rfl hS fun o I C => ?_))))
 have D : SH _ _ _ _ _ [q8 o [V3 A a b, V6 0] 145] := C
 refine av rfl (nq (i9 ?_))
 cases oi f
 exact ey results52 ⟨o, A, a, b, K, rfl, D, c, I0⟩

theorem u7 {q0 : u5} {q1 : Int} {r : Int × u5} (hS : SH w K Z w K [q8 g1 [V3 A a b, V6 q0.p_] 145]) (c : b7 tU8 K A a b q0.b_) (aF : d9 q0.p_) (aG : d9 q1) (hm : a0p F q0 q1 = some r) :
  Calls prog 78 #[.pointer (some ⟨g1, 0, none⟩), V6 q1] w fun e w' => ∃ a_2 n_3 c_4 K', e = .returned (V6 r.1) ∧ SH w K Z w' K' [q8 g1 [V3 a_2 n_3 c_4, V6 r.2.p_] 145] ∧ d9 r.1 ∧ b7 tU8 K' a_2 n_3 c_4 r.2.b_ ∧ d9 r.2.p_ := by
 rw [a0p] at hm
 refine ci func78 rfl ntmps78 (sr (lv (L3 rfl) (nr (mv rfl (mv rfl (lv (v8 rfl) (fl b0L rfl D8 m0 hS rfl (lv (s6 rfl rfl) (lv (v8 rfl) ?_)))))))))
 refine fa b0L rfl (ls [V3 A a b, V6 (u6 (q0.p_ + (1 : Int)))] (V6 (u6 (q0.p_ + (1 : Int)))) D8 hS fun w8 k => (ns (k8 ?_)))
 obtain ⟨y, B, C⟩ := ob hm
 refine j4 (IV w K Z K [(0, pt g1), (1, V6 q1), (24, .bool y)] [q8 g1 [V3 A a b, V6 (u6 (q0.p_ + (1 : Int)))] 145]) ?_ ?_
 ·refine i7 (mv rfl (lv (n8 rfl rfl) (mv rfl (bt B (fun d l => ?_) (fun d l => ?_)))))
  ·iterate 6 refine lu d ?_
   refine lv (K5 rfl d rfl) (d7 ?_)
   cases oi l
   exact qd ⟨K, rfl, k, kr⟩
  refine lg d (d6 rfl) (lg d (v8 rfl) (lg d (b8 a3k rfl) (lg d (l8 b2z rfl m0 k rfl) (lg d (k9 underlying22 rfl c) (lg d (u3 rfl rfl) (lv (j9 rfl d rfl) (d7 ?_)))))))
  cases oi l
  exact qd ⟨K, rfl, k, kr⟩
 rintro _ aI ⟨q, rfl, i, f⟩
 refine j6 (B5 C rfl (fun D m => ?_) (fun D m => ?_))
 ·refine sr (lv (L3 rfl) (nq (rr ?_)))
  cases oi m
  exact ey results78 ⟨A, a, b, q, rfl, i, I0, (c.mono f), (l9 _)⟩
 refine i6 (qr (mv rfl (lv (v8 rfl) (fl b0L rfl D8 m0 i rfl (lv (F2 rfl rfl) (av rfl (P6 (mv rfl (mv rfl ?_)))))))))
 refine lv (v8 rfl) (fl a3k rfl b2z m0 i rfl (lv (k9 underlying22 rfl (c.mono f)) (lv (n8 rfl rfl) (nq (B5 m rfl (fun G o => ?_) (fun G o => ?_))))))
 ·refine sr (mv rfl (lv (v8 rfl) (fl a3k rfl b2z m0 i rfl (mv rfl ?_))))
  obtain ⟨H, I, J⟩ := ob o
  refine li underlying22 tf5 (c.mono f) I fun O R aJ S T => ?_
  obtain rfl := S
  have U : D0 _ O R [iv8 H] := T
  refine lv (u0 tf5 rfl i (U 0 _ rfl)) (lv (b2Z underlying5 underlying3 rfl) (mv rfl ?_))
  obtain ⟨aK, s, V⟩ := ob J
  refine lv (a7h rfl rfl s) (av rfl (nq (rr ?_)))
  cases oi V
  exact ey results78 ⟨A, a, b, q, rfl, i, (a8I (b8s _) s), (c.mono f), (l9 _)⟩
 refine i6 (qs (C2 mixed (by kernel_rfl) i (km rfl (kv (v8 rfl) (kv (b8 a3k rfl) (kh (u2 b2z rfl m0 rfl) (km rfl (km rfl (kv (v8 rfl) ?_)))))))))
 refine kv (b8 a3k rfl) (kh (u2 b2z rfl m0 rfl) (kv (k9 underlying22 rfl (c.mono f)) ?_))
 obtain ⟨aL, W, X⟩ := ob o
 refine kv (a7h rfl rfl W) ?_
 obtain ⟨Y, aa, ab⟩ := ob X
 refine ki underlying22 tf5 (c.mono f) aa fun ac ad aM ae af => ?_
 obtain rfl := ae
 have ag : D0 _ ac ad [iv8 Y] := af
 refine kh (z8 tf5 rfl (ag 0 _ rfl)) (kv (b2Z underlying5 underlying3 rfl) (kv (I9 rfl rfl) (km rfl (kv (v8 rfl) (kv (b8 a3k rfl) (kh (u2 b2z rfl m0 rfl) (km rfl (kv (I9 rfl rfl) (kv (s6 rfl rfl) ?_)))))))))
 refine km rfl (kv (v8 rfl) (kv (b8 a3k rfl) (kh (u2 b2z rfl m0 rfl) (kv (k9 underlying22 rfl (c.mono f)) ?_))))
 obtain ⟨aN, ah, ai⟩ := ob ab
 refine kv (a7h rfl rfl ah) ?_
 obtain ⟨aj, ak, al⟩ := ob ai
 refine ki underlying22 tf5 (c.mono f) ak fun am an aO ao ap => ?_
 obtain rfl := ao
 have aq : D0 _ am an [iv8 aj] := ap
 refine kh (z8 tf5 rfl (aq 0 _ rfl)) (kv (b2Z underlying5 underlying3 rfl) (kv (I9 rfl rfl) (kv (s6 rfl rfl) (km rfl (kv (I9 rfl rfl) (kv (s6 rfl rfl) (km rfl (km rfl (kv (v8 rfl) ?_)))))))))
 refine kv (b8 a3k rfl) (kh (u2 b2z rfl m0 rfl) (kv (k9 underlying22 rfl (c.mono f)) ?_))
 obtain ⟨aP, ar, au⟩ := ob al
 refine kv (a2d rfl rfl ar) (kv (I9 rfl rfl) (kv (s6 rfl rfl) ?_))
 obtain ⟨aQ, aw, ax⟩ := ob au
 have ay := oi aw
 refine kv (b3O rfl (congrArg (Value.int .i64) ay)) (z7 ?_)
 rintro aR ⟨az, aA, aB⟩
 refine qr (mv rfl (mv rfl ?_))
 obtain ⟨aS, aC, aD⟩ := ob ax
 refine lv (a2d rfl rfl aC) (lv (b8x rfl rfl) (av rfl (nr (mv rfl (mv rfl ?_)))))
 obtain ⟨aT, x, aE⟩ := ob aD
 refine lv (a7h rfl rfl x) (av rfl (nq (i9 ?_)))
 cases oi aE
 exact ey results78 ⟨A, a, b, az, rfl, aA, (a8I (l9 _) x), (c.mono (f.trans aB)), (l9 _)⟩

theorem a8j {q0 : u5} {r : q9 × u5} (hS : SH w K Z w K [q8 g1 [V3 A a b, V6 q0.p_] 145]) (aI : b7 tU8 K A a b q0.b_) (aJ : d9 q0.p_) (hm : a0B F q0 = some r) :
  Calls prog 103 #[.pointer (some ⟨g1, 0, none⟩)] w fun e w' => ∃ a_1 n_2 c_3 a_5 n_6 c_7 a_9 n_10 c_11 K', e = .returned (.agg #[V3 a_1 n_2 c_3, V3 a_5 n_6 c_7]) ∧ SH w K Z w' K' [tail (V3 a_1 n_2 c_3) 9 1, tail (V3 a_5 n_6 c_7) 96 2, q8 g1 [V3 a_9 n_10 c_11, V6 r.2.p_] 145] ∧ b7 B8 K' a_1 n_2 c_3 r.1.Stops ∧ b7 I4 K' a_5 n_6 c_7 r.1.Syns ∧ b7 tU8 K' a_9 n_10 c_11 r.2.b_ ∧ d9 r.2.p_ := by
 rw [a0B] at hm
 refine ci func103 rfl ntmps103 (sr (al E6 hS fun s w8 aK => ?_))
 have aL : SH _ _ _ _ _ [q8 s [V3 none 0 0, V3 none 0 0] 26, _] := aK
 refine nr (lv (A5 (cs := #[V3 none 0 0, V3 none 0 0]) c0d E6 rfl (by kernel_rfl)) (al E6 aL fun v bZ aM => ?_))
 have aN : SH _ _ _ _ _ [q8 v [V3 none 0 0, V3 none 0 0] 26, _, _] := aM
 refine lw [V3 none 0 0, V3 none 0 0] E6 aN fun ca aO => (P6 (mv rfl ?_))
 obtain ⟨aP, aQ, aR⟩ := ob hm
 have ak := aO.f2
 refine lk a2C (u7 F ak.e1 aI aJ (by decide : d9 3) aQ) ?_
 rintro cb cc ⟨aS, aT, aU, am, rfl, aV, cd, aW, aX⟩
 have an := (ak.c1 aV).t3
 refine lv (E5 rfl rfl) (nq ?_)
 obtain ⟨ao, aY, aZ⟩ := ob aR
 refine j4 (fun E' w' => ∃ x y B i k l C, E' = [(0, pt g1), (2, pt s), (3, pt v)] ∧ SH w K Z w' C [q8 g1 [V3 aS aT aU, V6 aP.2.p_] 145, q8 s [V3 none 0 0, V3 none 0 0] 26, q8 v [V3 x y B, V3 i k l] 26, tail (V3 x y B) 9 1, tail (V3 i k l) 96 2] ∧ H6 am C ∧ b7 B8 C x y B ao.Stops ∧ b7 I4 C i k l ao.Syns) ?_ ?_
 ·refine B5 aY rfl (fun ba W => ?_) (fun ba W => ?_)
  ·refine i7 (lb B8 (sv [116, 104, 101]) [sv [116, 104, 101]] ([116, 104, 101] : k6) underlying23 D9 ⟨rfl, (by decide : ([116, 104, 101] : k6).length ≤ maxLen)⟩ an fun X ce bb bc bd be => (fa a1w rfl (ls [V3 X 1 1, V3 none 0 0] (V3 X 1 1) O5 be.f2 fun cf bf => (d7 ?_))))
   cases oi W
   have bg := bf.nil 96 2
   exact qd ⟨X, 1, 1, none, 0, 0, bb, rfl, bg.f2.f2.f4.f4, bc, bd, (b7.nil _ _)⟩
  refine i6 ?_
  cases oi W
  have bh := an.nil 9 1
  have bi := bh.nil 96 2
  exact qd ⟨none, 0, 0, none, 0, 0, am, rfl, bi.f1.f3.f4.f4, kr, (b7.nil _ _), (b7.nil _ _)⟩
 rintro _ cg ⟨x, y, B, i, k, l, C, rfl, ap, bj, bk, aq⟩
 refine qs (sr (mv rfl ?_))
 obtain ⟨bl, bm, bn⟩ := ob aZ
 refine lk a2C (u7 F ap.e1 (aW.mono bj) aX (by decide : d9 4) bm) ?_
 rintro ch cj ⟨bo, bp, bq, ar, rfl, S, ck, br, bs⟩
 have au := (ap.c1 S).t5
 refine lv (u3 rfl rfl) (nq ?_)
 obtain ⟨aw, bu, bv⟩ := ob bn
 refine j4 (fun E' w' => ∃ c d f m o q D, E' = [(0, pt g1), (2, pt s), (3, pt v)] ∧ SH w K Z w' D [q8 g1 [V3 bo bp bq, V6 bl.2.p_] 145, q8 s [V3 none 0 0, V3 none 0 0] 26, q8 v [V3 c d f, V3 m o q] 26, tail (V3 c d f) 9 1, tail (V3 m o q) 96 2] ∧ H6 ar D ∧ b7 B8 D c d f aw.Stops ∧ b7 I4 D m o q aw.Syns) ?_ ?_
 ·refine B5 bu rfl (fun bx Y => ?_) (fun bx Y => ?_)
  ·refine i7 (bw [[100, 111, 103], [116, 104, 101]] underlying23 D9 au fun aa cl bz ax bA bB => (fa a1w rfl (ls [V3 aa 2 2, V3 i k l] (V3 aa 2 2) O5 bB.f3 fun cm bC => (d7 ?_))))
   cases oi Y
   exact qd ⟨aa, 2, 2, i, k, l, bz, rfl, bC.f5.f2.f2.f4.f4.s, ax, bA, (aq.mono (S.le.trans ax))⟩
  refine i6 ?_
  cases oi Y
  exact qd ⟨x, y, B, i, k, l, ar, rfl, au, kr, (bk.mono S.le), (aq.mono S.le)⟩
 rintro _ cn ⟨c, d, f, m, o, q, D, rfl, ay, bD, ab, bE⟩
 refine qs (sr (mv rfl ?_))
 obtain ⟨cp, bF, bG⟩ := ob bv
 refine lk a2C (u7 F ay.e1 (br.mono bD) bs (by decide : d9 4) bF) ?_
 rintro cq cr ⟨ac, ad, ae, bH, rfl, G, ct, af, ag⟩
 have T := (ay.c1 G).t5
 refine nq (i5 (sr (lv (u3 rfl rfl) (av rfl (nq (B5 bG rfl (fun bI ah => ?_) (fun bI ah => ?_)))))))
 ·refine i7 (bw [[110, 101, 119], [121, 111, 114, 107]] underlying23 D9 T fun U cu cv az bJ bK => (lv (A5 (cs := #[V3 U 2 2, sv [110, 121]]) b7c a3Z rfl (by kernel_rfl)) (lb I4 (.agg #[V3 U 2 2, sv [110, 121]]) [V3 U 2 2, sv [110, 121]] (Q0.mk ([([110, 101, 119] : k6), ([121, 111, 114, 107] : k6)] : List k6) ([110, 121] : k6)) underlying24 a3Z ⟨U, 2, 2, rfl, bJ, (by decide : ([110, 121] : k6).length ≤ maxLen)⟩ bK fun H cw bL aA bM bN => (fa a1x rfl (ls [V3 c d f, V3 H 1 1] (V3 H 1 1) a5V bN.f4 fun cx aB => (nb (qr (lv (l3 (ds := [V3 c d f, V3 H 1 1]) E6 rfl m0 aB rfl rfl) (lw [V3 c d f, V3 H 1 1] E6 aB.f4 fun cy aC => ?_)))))))))
  refine nq (i9 ?_)
  cases oi ah
  exact ez results103 E6 aC m0 ⟨c, d, f, H, 1, 1, ac, ad, ae, bL, rfl, aC.f4.f3.f5.s, (ab.mono ((G.le.trans az).trans aA)), bM, (af.mono (az.trans aA)), ag⟩
 refine sr (lv (u3 rfl rfl) (av rfl (nq (B5 ah rfl (fun bO ai => ?_) (fun bO ai => ?_)))))
 ·refine i7 (lb B8 (sv [98, 105, 103]) [sv [98, 105, 103]] ([98, 105, 103] : k6) underlying23 D9 ⟨rfl, (by decide : ([98, 105, 103] : k6).length ≤ maxLen)⟩ T fun I cz cA aD bP bQ => (lv (A5 (cs := #[V3 I 1 1, sv [108, 97, 114, 103]]) b7c a3Z rfl (by kernel_rfl)) (bw [[98, 105, 103], [114, 101, 100], [102, 111, 120]] underlying23 D9 bQ fun J cB cC aj bR bS => (lv (A5 (cs := #[V3 J 3 3, sv [102, 111, 120]]) b7c a3Z rfl (by kernel_rfl)) (bw [[110, 101, 119], [121, 111, 114, 107]] underlying23 D9 bS fun O cD cE V bT bU => (lv (A5 (cs := #[V3 O 2 2, sv [110, 121]]) b7c a3Z rfl (by kernel_rfl)) ?_))))))
  refine J1 (t := I4) (n := 3) (pv := [(0, .agg #[V3 I 1 1, sv [108, 97, 114, 103]]), (1, .agg #[V3 J 3 3, sv [102, 111, 120]]), (2, .agg #[V3 O 2 2, sv [110, 121]])]) (cs := [V3 I 1 1, sv [108, 97, 114, 103], V3 J 3 3, sv [102, 111, 120], V3 O 2 2, sv [110, 121]]) (xs := [(Q0.mk ([([98, 105, 103] : k6)] : List k6) ([108, 97, 114, 103] : k6)), (Q0.mk ([([98, 105, 103] : k6), ([114, 101, 100] : k6), ([102, 111, 120] : k6)] : List k6) ([102, 111, 120] : k6)), (Q0.mk ([([110, 101, 119] : k6), ([121, 111, 114, 107] : k6)] : List k6) ([110, 121] : k6))]) wn rfl underlying24 a3Z rfl rfl rfl (by kernel_rfl) rfl rfl (M1 (u := .agg #[V3 I 1 1, sv [108, 97, 114, 103]]) (z := (Q0.mk ([([98, 105, 103] : k6)] : List k6) ([108, 97, 114, 103] : k6))) ⟨I, 1, 1, rfl, (bP.mono (aj.trans V)), (by decide : ([108, 97, 114, 103] : k6).length ≤ maxLen)⟩ (M1 (u := .agg #[V3 J 3 3, sv [102, 111, 120]]) (z := (Q0.mk ([([98, 105, 103] : k6), ([114, 101, 100] : k6), ([102, 111, 120] : k6)] : List k6) ([102, 111, 120] : k6))) ⟨J, 3, 3, rfl, (bR.mono V), (by decide : ([102, 111, 120] : k6).length ≤ maxLen)⟩ (M1 (u := .agg #[V3 O 2 2, sv [110, 121]]) (z := (Q0.mk ([([110, 101, 119] : k6), ([121, 111, 114, 107] : k6)] : List k6) ([110, 121] : k6))) ⟨O, 2, 2, rfl, bT, (by decide : ([110, 121] : k6).length ≤ maxLen)⟩ a2n))) bU ?_
  intro R cF bV aE bW bX
  refine fa a1x rfl (ls [V3 c d f, V3 R 3 3] (V3 R 3 3) a5V bX.f6 fun cG aF => (nb (qr (lv (l3 (ds := [V3 c d f, V3 R 3 3]) E6 rfl m0 aF rfl rfl) (lw [V3 c d f, V3 R 3 3] E6 aF.f6 fun cH aG => (nq (i9 ?_)))))))
  cases oi ai
  exact ez results103 E6 aG m0 ⟨c, d, f, R, 3, 3, ac, ad, ae, bV, rfl, aG.f6.f3.f7.s, (b7.mono ((((G.le.trans aD).trans aj).trans V).trans aE) ab), bW, (b7.mono (((aD.trans aj).trans V).trans aE) af), ag⟩
 refine i6 (o0 (qr (lv (l3 (ds := [V3 c d f, V3 m o q]) E6 rfl m2 T rfl rfl) (lw [V3 c d f, V3 m o q] E6 T.f1 fun cI aH => (nq (i9 ?_))))))
 cases oi ai
 exact ez results103 E6 aH m0 ⟨c, d, f, m, o, q, ac, ad, ae, bH, rfl, aH.f1.f4.f4.s, (ab.mono G.le), (bE.mono G.le), af, ag⟩

theorem J9 {q0 : u5} {q1 : List k6} {r : k6 × u5} (hS : SH w K Z w K [q8 g1 [V3 A a b, V6 q0.p_] 145]) (l : b7 tU8 K A a b q0.b_) (m : d9 q0.p_) (f : b7 B8 K B c d q1) (hm : F8 F q0 q1 = some r) :
  Calls prog 70 #[.pointer (some ⟨g1, 0, none⟩), V3 B c d] w fun e w' => ∃ a_2 n_3 c_4 K', e = .returned (sv r.1) ∧ SH w K Z w' K' [q8 g1 [V3 a_2 n_3 c_4, V6 r.2.p_] 145] ∧ r.1.length ≤ maxLen ∧ b7 tU8 K' a_2 n_3 c_4 r.2.b_ ∧ d9 r.2.p_ := by
 rw [F8] at hm
 refine ci func70 rfl ntmps70 (sr (lv (r_s rfl) (nr (mv rfl (mv rfl (mv rfl (lv (k9 underlying23 rfl f) ?_)))))))
 obtain ⟨W, o, q⟩ := ob hm
 refine lk a2C (u7 F hS.e1 l m f.rn o) ?_
 rintro X Y ⟨s, x, y, C, rfl, i, aa, D, G⟩
 have k := (hS.c1 i).t1
 obtain ⟨H, I, J⟩ := ob q
 refine li underlying23 D9 (f.mono i.le) I fun O R ab S T => ?_
 obtain ⟨rfl, U⟩ := S
 have V : D0 _ O R [sv H] := T
 refine lv (u0 D9 rfl k (V 0 _ rfl)) (av rfl (nq (i9 ?_)))
 cases oi J
 exact ey results70 ⟨s, x, y, C, rfl, k, U, D, G⟩

theorem a9g {q0 : u5} {r : k6 × u5} (hS : SH w K Z w K [q8 g1 [V3 A a b, V6 q0.p_] 145]) (d : b7 tU8 K A a b q0.b_) (f : d9 q0.p_) (hm : a1e F q0 = some r) :
  Calls prog 266 #[.pointer (some ⟨g1, 0, none⟩)] w fun e w' => ∃ a_2 n_3 c_4 K', e = .returned (sv r.1) ∧ SH w K Z w' K' [q8 g1 [V3 a_2 n_3 c_4, V6 r.2.p_] 145] ∧ r.1.length ≤ maxLen ∧ b7 tU8 K' a_2 n_3 c_4 r.2.b_ ∧ d9 r.2.p_ := by
 rw [a1e] at hm
 refine ci func266 rfl ntmps266 (sr (lv (r_s rfl) (nr (mv rfl (bw [[99, 97, 116], [67, 97, 116, 115], [100, 111, 103], [100, 111, 103, 115], [114, 117, 110], [82, 85, 78, 78, 73, 78, 71], [116, 104, 101], [114, 101, 100], [98, 105, 103], [110, 101, 119, 32, 121, 111, 114, 107], [78, 101, 119, 32, 32, 89, 111, 114, 107], [110, 121], [102, 111, 120], [112, 97, 115, 115, 101, 100], [120, 49], [97, 118, 101, 114, 121, 118, 101, 114, 121, 108, 111, 110, 103, 119, 111, 114, 100]] underlying23 D9 hS fun I J O i k l => ?_)))))
 obtain ⟨R, m, o⟩ := ob hm
 have c := l.f1
 refine lk b1y (J9 F c.e1 (d.mono i) f k m) ?_
 rintro S T ⟨q, s, x, y, rfl, B, C, D, G⟩
 have H := (c.c1 B).t2
 refine av rfl (nq (i9 ?_))
 cases oi o
 exact ey results266 ⟨q, s, x, y, rfl, H.s, C, D, G⟩

theorem a4m {q0 : u5} {r : k6 × u5} (hS : SH w K Z w K [q8 g1 [V3 A a b, V6 q0.p_] 145]) (S : b7 tU8 K A a b q0.b_) (T : d9 q0.p_) (hm : O2 F q0 = some r) :
  Calls prog 255 #[.pointer (some ⟨g1, 0, none⟩)] w fun e w' => ∃ a_2 n_3 c_4 K', e = .returned (sv r.1) ∧ SH w K Z w' K' [q8 g1 [V3 a_2 n_3 c_4, V6 r.2.p_] 145] ∧ r.1.length ≤ maxLen ∧ b7 tU8 K' a_2 n_3 c_4 r.2.b_ ∧ d9 r.2.p_ := by
 rw [O2] at hm
 refine ci func255 rfl ntmps255 (sr (lv (r_s rfl) (nr (lv (r_s rfl) (P6 (mv rfl ?_))))))
 obtain ⟨r7, U, V⟩ := ob hm
 refine lk a2C (u7 F hS.e1 S T (by decide : d9 9) U) ?_
 rintro aO aP ⟨W, X, Y, x, rfl, aa, ab, ac, ad⟩
 have ae := (hS.c1 aa).t1
 refine av rfl (nq ?_)
 obtain ⟨d, af, ag⟩ := ob V
 refine j4 (fun E' w' => ∃ k l m f, E' = [(0, pt g1), (3, sv d.1)] ∧ SH w K Z w' f [q8 g1 [V3 k l m, V6 d.2.p_] 145] ∧ H6 x f ∧ d.1.length ≤ maxLen ∧ b7 tU8 f k l m d.2.b_ ∧ d9 d.2.p_) ?_ ?_
 ·refine i5 ?_
  obtain ⟨aQ, ah, ai⟩ := ob af
  refine qw (fun (c : k6 × Int × u5) E' w' => ∃ o q s i, E' = [(0, pt g1), (3, sv c.1), (4, V6 c.2.1)] ∧ SH w K Z w' i [q8 g1 [V3 o q s, V6 c.2.2.p_] 145] ∧ H6 x i ∧ c.1.length ≤ maxLen ∧ d9 c.2.1 ∧ b7 tU8 i o q s c.2.2.b_ ∧ d9 c.2.2.p_) ah ⟨W, X, Y, x, rfl, ae, kr, (by decide : ([] : k6).length ≤ maxLen), ab, ac, ad⟩ ?_
  rintro c _ aR aS aj ak ⟨o, q, s, i, rfl, y, C, al, aT, D, G⟩
  refine k8 (sr (mv rfl (lv (E5 rfl rfl) (nq (B5 aj rfl (fun am B => ?_) (fun am B => ?_))))))
  ·refine i6 (qs (i5 (i7 (mv rfl (mv rfl ?_)))))
   obtain ⟨aU, an, ao⟩ := ob B
   refine lk b9A (a9g F y.e1 D G an) ?_
   rintro aV aW ⟨aX, aY, aZ, ba, rfl, H, bb, ap, aq⟩
   have ar := (y.c1 H).t1
   obtain ⟨bc, au, aw⟩ := ob ao
   refine lv (a8K rfl rfl au) (mv rfl (bw [[32], [32], [44, 32], [45], [46, 32]] underlying23 D9 ar fun bd be bf I ax ay => ?_))
   obtain ⟨bg, az, aA⟩ := ob aw
   have J := ay.f1
   refine lk b1y (J9 F J.e1 (ap.mono I) aq ax az) ?_
   rintro bh bi ⟨aB, aC, aD, aE, rfl, O, bj, aF, aG⟩
   have aH := (J.c1 O).t2
   obtain ⟨bk, R, aI⟩ := ob aA
   refine lv (a8K rfl rfl R) (av rfl (nb (j6 (i7 (mv rfl (lv (F2 rfl rfl) (av rfl (d7 ?_))))))))
   cases oi aI
   exact qd ⟨_, rfl, aB, aC, aD, aE, rfl, aH.s, (((C.trans H.le).trans I).trans O.le), (b0V R), (l9 _), aF, aG⟩
  refine q7 (d4 (d4 ?_))
  cases oi B
  cases ak _ rfl
  refine j5 ?_
  cases oi ai
  exact qd ⟨o, q, s, i, rfl, y, C, al, D, G⟩
 rintro _ bl ⟨k, l, m, f, rfl, aJ, bm, aK, aL, aM⟩
 refine qr (mv rfl (av rfl (nq (i9 ?_))))
 cases oi ag
 exact ey results255 ⟨k, l, m, f, rfl, aJ, aK, aL, aM⟩

theorem a19 {r : (List k6)} (hS : SH w K [] w K []) (hm : S8 F  = some r) :
  Calls prog 79 #[] w fun e w' => ∃ a_1 n_2 c_3 K', e = .returned (V3 a_1 n_2 c_3) ∧ SH w K [] w' K' [tail (V3 a_1 n_2 c_3) 9 1] ∧ b7 B8 K' a_1 n_2 c_3 r := by
 rw [S8] at hm
 refine ci func79 rfl ntmps79 (sr (lv (r_n rfl) (nr (bw [[99, 97, 116], [99, 97, 116, 115], [100, 111, 103], [100, 111, 103, 115], [114, 117, 110], [114, 117, 110, 110, 105, 110, 103], [116, 104, 101], [114, 101, 100], [98, 105, 103], [110, 101, 119], [121, 111, 114, 107], [110, 121], [102, 111, 120]] underlying23 D9 hS fun a f b i c d => (av rfl (nq (i9 ?_)))))))
 cases oi hm
 exact ey results79 ⟨a, 13, 13, b, rfl, d, c⟩

theorem a8l {q0 : u5} {r : r5 × u5} (hS : SH w K Z w K [q8 g1 [V3 A a b, V6 q0.p_] 145]) (ar : b7 tU8 K A a b q0.b_) (au : d9 q0.p_) (hm : a0D F q0 = some r) :
  Calls prog 155 #[.pointer (some ⟨g1, 0, none⟩)] w fun e w' => ∃ a_3 n_4 c_5 a_9 n_10 c_11 a_13 n_14 c_15 K', e = .returned (.agg #[V6 r.1.Kind, sv r.1.Field, V3 a_3 n_4 c_5, V6 r.1.From, V6 r.1.To, V3 a_9 n_10 c_11]) ∧ SH w K Z w' K' [tail (V3 a_3 n_4 c_5) 9 1, tail (V3 a_9 n_10 c_11) 42 6, q8 g1 [V3 a_13 n_14 c_15, V6 r.2.p_] 145] ∧ d9 r.1.Kind ∧ r.1.Field.length ≤ maxLen ∧ b7 B8 K' a_3 n_4 c_5 r.1.Words ∧ d9 r.1.From ∧ d9 r.1.To ∧ b7 E4 K' a_9 n_10 c_11 r.1.Kids ∧ b7 tU8 K' a_13 n_14 c_15 r.2.b_ ∧ d9 r.2.p_ := by
 rw [a0D] at hm
 refine ci func155 rfl ntmps155 (sr (al C3 hS fun g7 w8 ax => ?_))
 have ay : SH _ _ _ _ _ [q8 g7 [V6 0, sv [], V3 none 0 0, V6 0, V6 0, V3 none 0 0] 42, _] := ax
 refine nr (mv rfl (bw [[98, 111, 100, 121], [98, 111, 100, 121], [116, 105, 116, 108, 101]] underlying23 D9 ay fun dl dm dn az aA aB => ?_))
 obtain ⟨d, aC, aD⟩ := ob hm
 have R := aB.f2
 refine lk b1y (J9 F R.e1 (ar.mono az) au aA aC) ?_
 rintro dp dq ⟨dr, ds, dt, du, rfl, aE, o, aF, aG⟩
 have S := (R.c1 aE).t3
 refine av rfl (P6 (mv rfl ?_))
 obtain ⟨dv, aH, aI⟩ := ob aD
 refine lk a2C (u7 F S.e1 aF aG (by decide : d9 9) aH) ?_
 rintro dw dx ⟨aJ, aK, aL, aM, rfl, aN, dy, f, i⟩
 have c := (S.c1 aN).t3
 refine nq (i5 (sr (lv (u3 rfl rfl) (av rfl (nq (B5 aI rfl (fun aO q => ?_) (fun aO q => ?_)))))))
 ·refine sr (lv (A5 (cs := #[V6 1, sv [], V3 none 0 0, V6 0, V6 0, V3 none 0 0]) a8q C3 rfl (by kernel_rfl)) (ls [V6 1, sv [], V3 none 0 0, V6 0, V6 0, V3 none 0 0] (.agg #[V6 1, sv [], V3 none 0 0, V6 0, V6 0, V3 none 0 0]) C3 c.f2 fun dz T => (nq (i9 (d8 (c9 ?_))))))
  cases oi q
  have aP := T.nil 9 1
  have aQ := aP.nil 42 6
  exact ez results155 C3 T m0 ⟨none, 0, 0, none, 0, 0, aJ, aK, aL, aM, rfl, aQ.f3.f1.f2.s, (by decide : d9 1), (by decide : ([] : k6).length ≤ maxLen), (b7.nil _ _), I0, I0, (b7.nil _ _), f, i⟩
 refine sr (lv (u3 rfl rfl) (av rfl (nq (B5 q rfl (fun aR s => ?_) (fun aR s => ?_)))))
 ·refine sr (mv rfl (mv rfl ?_))
  obtain ⟨dA, aS, aT⟩ := ob s
  refine lk b7X (a19 F c.enter0  aS) ?_
  rintro dB dC ⟨dD, dE, dF, dG, rfl, U, aU⟩
  have aV := (c.c0 U).t4
  obtain ⟨l, aW, aX⟩ := ob aT
  have V := aV.f1
  refine lk b1y (J9 F V.e1 (f.mono U.le) i aU aW) ?_
  rintro dH dI ⟨dJ, dK, dL, dM, rfl, aY, aZ, ba, bb⟩
  have W := (V.c1 aY).t4
  refine mv rfl ?_
  obtain ⟨dN, bc, bd⟩ := ob aX
  refine lk b7X (a19 F W.enter0  bc) ?_
  rintro dO dP ⟨dQ, dR, dS, dT, rfl, X, be⟩
  have bf := (W.c0 X).t5
  obtain ⟨m, bg, bh⟩ := ob bd
  have Y := bf.f1
  refine lk b1y (J9 F Y.e1 (ba.mono X.le) bb be bg) ?_
  rintro dU dV ⟨dW, dX, dY, dZ, rfl, bi, bj, bk, bl⟩
  have bm := (Y.c1 bi).t5
  refine J1 (t := B8) (n := 2) (pv := [(0, sv l.1), (1, sv m.1)]) (cs := [sv l.1, sv m.1]) (xs := [l.1, m.1]) wn rfl underlying23 D9 rfl rfl rfl (by kernel_rfl) rfl rfl (M1 (u := sv l.1) (z := l.1) ⟨rfl, aZ⟩ (M1 (u := sv m.1) (z := m.1) ⟨rfl, bj⟩ a2n)) bm fun v ea eb bn bo bp => (mv rfl ?_)
  obtain ⟨aa, bq, br⟩ := ob bh
  have ab := bp.f1
  refine lk a2C (u7 F ab.e1 (bk.mono bn) bl (by decide : d9 3) bq) ?_
  rintro ec ed ⟨bs, bu, bv, bx, rfl, ac, bz, bA, bB⟩
  have bC := (ab.c1 ac).t6
  refine lv (A5 (cs := #[V6 3, sv d.1, V3 v 2 2, V6 aa.1, V6 0, V3 none 0 0]) a8q C3 rfl (by kernel_rfl)) (lw [V6 3, sv d.1, V3 v 2 2, V6 aa.1, V6 0, V3 none 0 0] C3 bC.f5 fun ee ad => (nq (i9 (d8 (c9 ?_)))))
  cases oi br
  have bD := ad.nil 42 6
  exact ez results155 C3 ad m0 ⟨v, 2, 2, none, 0, 0, bs, bu, bv, bx, rfl, bD.f2.f1.f3.s, (by decide : d9 3), o, (bo.mono ac.le), bz, I0, (b7.nil _ _), bA, bB⟩
 refine sr (lv (u3 rfl rfl) (av rfl (nq (B5 s rfl (fun bE x => ?_) (fun bE x => ?_)))))
 ·refine sr (mv rfl (mv rfl (bw [[99, 111, 116], [100, 117, 103], [114, 110], [102, 111, 103]] underlying23 D9 c fun ef eg eh bF bG bH => ?_)))
  obtain ⟨y, bI, bJ⟩ := ob x
  have ae := bH.f1
  refine lk b1y (J9 F ae.e1 (f.mono bF) i bG bI) ?_
  rintro ei ej ⟨ek, el, em, en, rfl, bK, bL, bM, bN⟩
  have bO := (ae.c1 bK).t4
  refine lb B8 (sv y.1) [sv y.1] y.1 underlying23 D9 ⟨rfl, bL⟩ bO fun B eo ep bP bQ bR => (mv rfl ?_)
  obtain ⟨af, bS, bT⟩ := ob bJ
  have ag := bR.f1
  refine lk a2C (u7 F ag.e1 (bM.mono bP) bN (by decide : d9 2) bS) ?_
  rintro eq es ⟨bU, bV, bW, bX, rfl, ah, et, bY, bZ⟩
  have ca := (ag.c1 ah).t5
  refine lv (s6 rfl rfl) (lv (A5 (cs := #[V6 4, sv d.1, V3 B 1 1, V6 (u6 ((1 : Int) + af.1)), V6 0, V3 none 0 0]) a8q C3 rfl (by kernel_rfl)) (lw [V6 4, sv d.1, V3 B 1 1, V6 (u6 ((1 : Int) + af.1)), V6 0, V3 none 0 0] C3 ca.f4 fun eu ai => (nq (i9 (d8 (c9 ?_))))))
  cases oi bT
  have cb := ai.nil 42 6
  exact ez results155 C3 ai m0 ⟨B, 1, 1, none, 0, 0, bU, bV, bW, bX, rfl, cb.f2.f1.f3.s, (by decide : d9 4), o, (bQ.mono ah.le), (l9 _), I0, (b7.nil _ _), bY, bZ⟩
 refine sr (lv (u3 rfl rfl) (av rfl (nq (B5 x rfl (fun cc C => ?_) (fun cc C => ?_)))))
 ·refine sr (mv rfl (mv rfl (bw [[99, 42], [63, 111, 63], [42, 110], [42]] underlying23 D9 c fun ev ew ex cd ce cf => ?_)))
  obtain ⟨D, cg, ch⟩ := ob C
  have aj := cf.f1
  refine lk b1y (J9 F aj.e1 (f.mono cd) i ce cg) ?_
  rintro eA eB ⟨cj, ck, cl, eC, rfl, cm, cn, cp, cq⟩
  have cr := (aj.c1 cm).t4
  refine lb B8 (sv D.1) [sv D.1] D.1 underlying23 D9 ⟨rfl, cn⟩ cr fun G eD ct cu cv cw => (lv (A5 (cs := #[V6 5, sv d.1, V3 G 1 1, V6 0, V6 0, V3 none 0 0]) a8q C3 rfl (by kernel_rfl)) (lw [V6 5, sv d.1, V3 G 1 1, V6 0, V6 0, V3 none 0 0] C3 cw.f4 fun eE ak => (nq (i9 (d8 (c9 ?_))))))
  cases oi ch
  have cx := ak.nil 42 6
  exact ez results155 C3 ak m0 ⟨G, 1, 1, none, 0, 0, cj, ck, cl, ct, rfl, cx.f3.f1.f3.s, (by decide : d9 5), o, cv, I0, I0, (b7.nil _ _), (cp.mono cu), cq⟩
 refine sr (lv (u3 rfl rfl) (av rfl (nq (B5 C rfl (fun cy H => ?_) (fun cy H => ?_)))))
 ·refine sr (mv rfl ?_)
  obtain ⟨k, cz, cA⟩ := ob H
  refine lk a2C (u7 F c.e1 f i (by decide : d9 4) cz) ?_
  rintro eF eG ⟨eH, eI, eJ, eK, rfl, cB, cC, cD, cE⟩
  have am := (c.c1 cB).t3
  refine av rfl (nr (mv rfl (mv rfl (mv rfl ?_))))
  obtain ⟨I, cF, cG⟩ := ob cA
  refine lk a2C (u7 F am.e1 cD cE (by decide : d9 3) cF) ?_
  rintro eL eM ⟨cH, cI, cJ, cK, rfl, cL, eN, cM, cN⟩
  have cO := (am.c1 cL).t3
  refine lv (s6 rfl rfl) (lv (A5 (cs := #[V6 6, sv [114, 97, 116, 101], V3 none 0 0, V6 k.1, V6 (u6 (k.1 + I.1)), V3 none 0 0]) a8q C3 rfl (by kernel_rfl)) (ls [V6 6, sv [114, 97, 116, 101], V3 none 0 0, V6 k.1, V6 (u6 (k.1 + I.1)), V3 none 0 0] (.agg #[V6 6, sv [114, 97, 116, 101], V3 none 0 0, V6 k.1, V6 (u6 (k.1 + I.1)), V3 none 0 0]) C3 cO.f2 fun eO an => (nq (i9 (d8 (c9 ?_))))))
  cases oi cG
  have cP := an.nil 9 1
  have cQ := cP.nil 42 6
  exact ez results155 C3 an m0 ⟨none, 0, 0, none, 0, 0, cH, cI, cJ, cK, rfl, cQ.f3.f1.f2.s, (by decide : d9 6), (by decide : ([114, 97, 116, 101] : k6).length ≤ maxLen), (b7.nil _ _), cC, (l9 _), (b7.nil _ _), cM, cN⟩
 refine i6 (o0 (qr (mv rfl (mv rfl ?_))))
 obtain ⟨eP, cR, cS⟩ := ob H
 refine lk b7X (a19 F c.enter0  cR) ?_
 rintro eQ eR ⟨eS, eT, eU, eV, rfl, ao, cT⟩
 have cU := (c.c0 ao).t4
 obtain ⟨J, cV, cW⟩ := ob cS
 have ap := cU.f1
 refine lk b1y (J9 F ap.e1 (f.mono ao.le) i cT cV) ?_
 rintro eW eX ⟨cX, cY, cZ, eY, rfl, da, db, dc, dd⟩
 have de := (ap.c1 da).t4
 refine lb B8 (sv J.1) [sv J.1] J.1 underlying23 D9 ⟨rfl, db⟩ de fun O eZ df dg dh di => (lv (A5 (cs := #[V6 2, sv d.1, V3 O 1 1, V6 0, V6 0, V3 none 0 0]) a8q C3 rfl (by kernel_rfl)) (lw [V6 2, sv d.1, V3 O 1 1, V6 0, V6 0, V3 none 0 0] C3 di.f4 fun fb aq => (nq (i9 ?_))))
 cases oi cW
 have dj := aq.nil 42 6
 exact ez results155 C3 aq m0 ⟨O, 1, 1, none, 0, 0, cX, cY, cZ, df, rfl, dj.f3.f1.f3.s, (by decide : d9 2), o, dh, I0, I0, (b7.nil _ _), (dc.mono dg), dd⟩

theorem a7b (F : Nat) : ∀ {w : World} {K : C5} {g1 : Nat} {l : Option Addr} {m o : Nat} {q0 : u5} {q1 : Int} {r : r5 × u5} (hS : SH w K (List.flatMap B6.gs [q8 g1 [V3 l m o, V6 q0.p_] 145]) w K [q8 g1 [V3 l m o, V6 q0.p_] 145]) (bd : b7 tU8 K l m o q0.b_) (be : d9 q0.p_) (cF : d9 q1) (hm : C1 F q0 q1 = some r),
  Calls prog 99 #[.pointer (some ⟨g1, 0, none⟩), V6 q1] w fun e w' => ∃ a_3 n_4 c_5 a_9 n_10 c_11 a_13 n_14 c_15 K', e = .returned (.agg #[V6 r.1.Kind, sv r.1.Field, V3 a_3 n_4 c_5, V6 r.1.From, V6 r.1.To, V3 a_9 n_10 c_11]) ∧ SH w K (List.flatMap B6.gs [q8 g1 [V3 l m o, V6 q0.p_] 145]) w' K' [tail (V3 a_3 n_4 c_5) 9 1, tail (V3 a_9 n_10 c_11) 42 6, q8 g1 [V3 a_13 n_14 c_15, V6 r.2.p_] 145] ∧ d9 r.1.Kind ∧ r.1.Field.length ≤ maxLen ∧ b7 B8 K' a_3 n_4 c_5 r.1.Words ∧ d9 r.1.From ∧ d9 r.1.To ∧ b7 E4 K' a_9 n_10 c_11 r.1.Kids ∧ b7 tU8 K' a_13 n_14 c_15 r.2.b_ ∧ d9 r.2.p_ := by
 induction F with
 | zero => intros; rename_i hm; rw [C1] at hm; cases hm
 | succ F ih =>
  intro w K g1 l m o q0 q1 r hS bd be cF hm
  rw [C1] at hm
  refine ci func99 rfl ntmps99 (sr (al C3 hS fun q w9 cG => ?_))
  have bT : SH _ _ _ _ _ [q8 q [V6 0, sv [], V3 none 0 0, V6 0, V6 0, V3 none 0 0] 42, _] := cG
  refine ns (k8 ?_)
  obtain ⟨ak, cH, cI⟩ := ob hm
  refine j4 (fun E' w' => ∃ bf bg bh am, E' = [(0, pt g1), (1, V6 q1), (4, pt q), (13, .bool ak.1)] ∧ SH w K (List.flatMap B6.gs [q8 g1 [V3 l m o, V6 q0.p_] 145]) w' am [q8 g1 [V3 bf bg bh, V6 ak.2.p_] 145, q8 q [V6 0, sv [], V3 none 0 0, V6 0, V6 0, V3 none 0 0] 42] ∧ H6 K am ∧ b7 tU8 am bf bg bh ak.2.b_ ∧ d9 ak.2.p_) ?_ ?_
  ·refine i7 (mv rfl (lv (R9 rfl rfl) (mv rfl (bt cH (fun s bi => ?_) (fun s bi => ?_)))))
   ·refine lu s (lu s (lu s (lv (K5 rfl s rfl) (d7 ?_))))
    cases oi bi
    exact qd ⟨l, m, o, K, rfl, bT.f1, kr, bd, be⟩
   refine lg s (d6 rfl) ?_
   obtain ⟨gr, cJ, cK⟩ := ob bi
   have bU := bT.f1
   refine x9 (wg rfl rfl s) rfl (x8 (vs := [pt g1, V6 3]) a2C rfl) (u7 F bU.e1 bd be (by decide : d9 3) cJ) ?_
   rintro gv w32 ⟨cL, cM, cN, cO, rfl, bV, gw, cP, cQ⟩
   refine ⟨_, rfl, ?_⟩
   have cR := (bU.c1 bV).t2
   refine lg s (u3 rfl rfl) (lv (j9 rfl s rfl) (d7 ?_))
   cases oi cK
   exact qd ⟨cL, cM, cN, cO, rfl, cR, bV.le, cP, cQ⟩
  rintro _ gx ⟨bf, bg, bh, am, rfl, an, gy, bW, bX⟩
  refine j6 (B5 cI rfl (fun cS bj => ?_) (fun cS bj => ?_))
  ·refine sr (mv rfl ?_)
   obtain ⟨ao, cT, cU⟩ := ob bj
   refine lk b82 (a8l F an.e1 bW bX cT) ?_
   rintro gz gA ⟨bY, bZ, ca, cb, cc, cd, cV, cW, cX, cY, rfl, cZ, da, db, dc, dd, de, df, dg, dh⟩
   have di := (an.c1 cZ).t4
   refine lw [V6 ao.1.Kind, sv ao.1.Field, V3 bY bZ ca, V6 ao.1.From, V6 ao.1.To, V3 cb cc cd] C3 di.f3 fun gB ce => (nq (rr ?_))
   cases oi cU
   exact ez results99 C3 ce m0 ⟨bY, bZ, ca, cb, cc, cd, cV, cW, cX, cY, rfl, ce.s, da, db, dc, dd, de, df, dg, dh⟩
  refine i6 (qs (sr (mv rfl ?_)))
  obtain ⟨dj, dk, dl⟩ := ob bj
  refine lk a2C (u7 F an.e1 bW bX (by decide : d9 6) dk) ?_
  rintro gC gD ⟨cf, cg, ch, ap, rfl, dm, gE, aq, ar⟩
  have V := (an.c1 dm).t2
  refine nq ?_
  obtain ⟨dn, dp, W⟩ := ob dl
  refine j4 (fun E' w' => ∃ b bk bl bm ad ae af ag ah ai X, dn = .inl b ∧ E' = [(0, pt g1), (1, V6 q1), (4, pt q)] ∧ SH w K (List.flatMap B6.gs [q8 g1 [V3 l m o, V6 q0.p_] 145]) w' X [q8 g1 [V3 bk bl bm, V6 b.1.p_] 145, q8 q [V6 b.2.Kind, sv b.2.Field, V3 ad ae af, V6 b.2.From, V6 b.2.To, V3 ag ah ai] 42] ∧ H6 ap X ∧ b7 tU8 X bk bl bm b.1.b_ ∧ d9 b.1.p_ ∧ d9 b.2.Kind ∧ b.2.Field.length ≤ maxLen ∧ b7 B8 X ad ae af b.2.Words ∧ d9 b.2.From ∧ d9 b.2.To ∧ b7 E4 X ag ah ai b.2.Kids) ?_ ?_
  ·refine i5 (sr (lv (u3 rfl rfl) (av rfl (nq (B5 dp rfl (fun dq bn => ?_) (fun dq bn => ?_))))))
   ·refine sr (mv rfl (mv rfl (lv (F2 rfl rfl) ?_)))
    obtain ⟨d, dr, dt⟩ := ob bn
    refine lk b2J (ih V.e1 aq ar (l9 _) dr) ?_
    rintro gF gG ⟨au, aw, ax, ay, az, aA, gH, gI, gJ, gK, rfl, du, dv, dw, dx, dy, dz, dA, dB, dC⟩
    have dD := (V.c1 du).t4
    refine mv rfl (mv rfl (lv (F2 rfl rfl) ?_))
    obtain ⟨f, dE, dF⟩ := ob dt
    have cj := dD.f2
    refine lk b2J (ih cj.e1 dB dC (l9 _) dE) ?_
    rintro gL gM ⟨aB, aC, aD, aE, aF, aG, dG, dH, dI, gN, rfl, bo, dJ, dK, dL, dM, dN, dO, dP, dQ⟩
    have dR := (cj.c1 bo).t6
    refine J1 (t := E4) (n := 2) (pv := [(0, .agg #[V6 d.1.Kind, sv d.1.Field, V3 au aw ax, V6 d.1.From, V6 d.1.To, V3 ay az aA]), (1, .agg #[V6 f.1.Kind, sv f.1.Field, V3 aB aC aD, V6 f.1.From, V6 f.1.To, V3 aE aF aG])]) (cs := [V6 d.1.Kind, sv d.1.Field, V3 au aw ax, V6 d.1.From, V6 d.1.To, V3 ay az aA, V6 f.1.Kind, sv f.1.Field, V3 aB aC aD, V6 f.1.From, V6 f.1.To, V3 aE aF aG]) (xs := [d.1, f.1]) wn rfl underlying40 C3 rfl rfl rfl (by kernel_rfl) rfl rfl (M1 (u := .agg #[V6 d.1.Kind, sv d.1.Field, V3 au aw ax, V6 d.1.From, V6 d.1.To, V3 ay az aA]) (z := d.1) (J0 ⟨au, aw, ax, ay, az, aA, rfl, dv, dw, (dx.mono bo.le), dy, dz, (dA.mono bo.le)⟩) (M1 (u := .agg #[V6 f.1.Kind, sv f.1.Field, V3 aB aC aD, V6 f.1.From, V6 f.1.To, V3 aE aF aG]) (z := f.1) (J0 ⟨aB, aC, aD, aE, aF, aG, rfl, dJ, dK, dL, dM, dN, dO⟩) a2n)) dR fun aH gO dS dT dU dV => ?_
    refine lv (A5 (cs := #[V6 9, sv [], V3 none 0 0, V6 0, V6 0, V3 aH 2 2]) a8q C3 rfl (by kernel_rfl)) (ls [V6 9, sv [], V3 none 0 0, V6 0, V6 0, V3 aH 2 2] (.agg #[V6 9, sv [], V3 none 0 0, V6 0, V6 0, V3 aH 2 2]) C3 dV.f6 fun gP ck => (nq (i9 (d8 (c9 ?_)))))
    cases oi dF
    refine c9 ?_
    cases oi W
    have dW := ck.nil 9 1
    exact ez results99 C3 ck m0 ⟨none, 0, 0, aH, 2, 2, dG, dH, dI, dS, rfl, dW.s, (by decide : d9 9), (by decide : ([] : k6).length ≤ maxLen), (b7.nil _ _), I0, I0, dU, (dP.mono dT), dQ⟩
   refine sr (lv (u3 rfl rfl) (av rfl (nq (B5 bn rfl (fun dX bp => ?_) (fun dX bp => ?_)))))
   ·refine sr (mv rfl ?_)
    obtain ⟨bq, dY, dZ⟩ := ob bp
    refine lk a2C (u7 F V.e1 aq ar (by decide : d9 4) dY) ?_
    rintro gQ gR ⟨gS, gT, gU, gV, rfl, ea, gW, eb, ec⟩
    have cl := (V.c1 ea).t2
    refine lv (s6 rfl rfl) (mv rfl (mv rfl (lv (F2 rfl rfl) ?_)))
    obtain ⟨x, ed, ee⟩ := ob dZ
    refine lk b2J (ih cl.e1 eb ec (l9 _) ed) ?_
    rintro gX gY ⟨br, bs, bu, bv, bx, bz, ef, eg, eh, gZ, rfl, ei, ej, ek, el, em, en, eo, ep, eq⟩
    have es := (cl.c1 ei).t4
    refine lb E4 (.agg #[V6 x.1.Kind, sv x.1.Field, V3 br bs bu, V6 x.1.From, V6 x.1.To, V3 bv bx bz]) [V6 x.1.Kind, sv x.1.Field, V3 br bs bu, V6 x.1.From, V6 x.1.To, V3 bv bx bz] x.1 underlying40 C3 (J0 ⟨br, bs, bu, bv, bx, bz, rfl, ej, ek, el, em, en, eo⟩) es fun aI hb et eu ev ew => (lv (A5 (cs := #[V6 10, sv [], V3 none 0 0, V6 (u6 ((2 : Int) + bq.1)), V6 0, V3 aI 1 1]) a8q C3 rfl (by kernel_rfl)) (ls [V6 10, sv [], V3 none 0 0, V6 (u6 ((2 : Int) + bq.1)), V6 0, V3 aI 1 1] (.agg #[V6 10, sv [], V3 none 0 0, V6 (u6 ((2 : Int) + bq.1)), V6 0, V3 aI 1 1]) C3 ew.f4 fun hc cm => (nq (i9 (d8 (c9 ?_))))))
    cases oi ee
    refine c9 ?_
    cases oi W
    have ex := cm.nil 9 1
    exact ez results99 C3 cm m0 ⟨none, 0, 0, aI, 1, 1, ef, eg, eh, et, rfl, ex.s, (by decide : d9 10), (by decide : ([] : k6).length ≤ maxLen), (b7.nil _ _), (l9 _), I0, ev, (ep.mono eu), eq⟩
   refine k8 (sr (lv (u3 rfl rfl) (av rfl (nq ?_))))
   obtain ⟨eA, eB, eC⟩ := ob bp
   refine j4 (IV w K (List.flatMap B6.gs [q8 g1 [V3 l m o, V6 q0.p_] 145]) ap [(0, pt g1), (1, V6 q1), (4, pt q), (41, .bool eA)] [q8 g1 [V3 cf cg ch, V6 dj.2.p_] 145, q8 q [V6 0, sv [], V3 none 0 0, V6 0, V6 0, V3 none 0 0] 42]) ?_ ?_
   ·refine B5 eB rfl (fun eD bA => ?_) (fun eD bA => ?_)
    ·refine i6 ?_
     cases oi bA
     exact qd ⟨ap, rfl, V, kr⟩
    refine i7 (lv (u3 rfl rfl) (av rfl (d7 ?_)))
    cases oi bA
    exact qd ⟨ap, rfl, V, kr⟩
   rintro _ hd ⟨eE, rfl, bB, bC⟩
   refine j6 (B5 eC rfl (fun eF bD => ?_) (fun eF bD => ?_))
   ·refine sr (mv rfl (mv rfl (lv (F2 rfl rfl) ?_)))
    obtain ⟨i, eG, eH⟩ := ob bD
    refine lk b2J (ih bB.e1 (aq.mono bC) ar (l9 _) eG) ?_
    rintro he hf ⟨aJ, aK, aL, aM, aN, aO, hg, hh, hi, hj, rfl, eI, eJ, eK, eL, eM, eN, eO, eP, eQ⟩
    have eR := (bB.c1 eI).t4
    refine mv rfl (mv rfl (lv (F2 rfl rfl) ?_))
    obtain ⟨k, eS, eT⟩ := ob eH
    have cn := eR.f2
    refine lk b2J (ih cn.e1 eP eQ (l9 _) eS) ?_
    rintro hk hn ⟨aP, aQ, aR, aS, aT, aU, eU, eV, eW, ho, rfl, bE, eX, eY, eZ, fb, fc, fd, fe, fg⟩
    have fh := (cn.c1 bE).t6
    refine J1 (t := E4) (n := 2) (pv := [(0, .agg #[V6 i.1.Kind, sv i.1.Field, V3 aJ aK aL, V6 i.1.From, V6 i.1.To, V3 aM aN aO]), (1, .agg #[V6 k.1.Kind, sv k.1.Field, V3 aP aQ aR, V6 k.1.From, V6 k.1.To, V3 aS aT aU])]) (cs := [V6 i.1.Kind, sv i.1.Field, V3 aJ aK aL, V6 i.1.From, V6 i.1.To, V3 aM aN aO, V6 k.1.Kind, sv k.1.Field, V3 aP aQ aR, V6 k.1.From, V6 k.1.To, V3 aS aT aU]) (xs := [i.1, k.1]) wn rfl underlying40 C3 rfl rfl rfl (by kernel_rfl) rfl rfl (M1 (u := .agg #[V6 i.1.Kind, sv i.1.Field, V3 aJ aK aL, V6 i.1.From, V6 i.1.To, V3 aM aN aO]) (z := i.1) (J0 ⟨aJ, aK, aL, aM, aN, aO, rfl, eJ, eK, (eL.mono bE.le), eM, eN, (eO.mono bE.le)⟩) (M1 (u := .agg #[V6 k.1.Kind, sv k.1.Field, V3 aP aQ aR, V6 k.1.From, V6 k.1.To, V3 aS aT aU]) (z := k.1) (J0 ⟨aP, aQ, aR, aS, aT, aU, rfl, eX, eY, eZ, fb, fc, fd⟩) a2n)) fh fun aV hp fi fj fk fm => ?_
    refine lv (A5 (cs := #[V6 7, sv [], V3 none 0 0, V6 0, V6 0, V3 aV 2 2]) a8q C3 rfl (by kernel_rfl)) (ls [V6 7, sv [], V3 none 0 0, V6 0, V6 0, V3 aV 2 2] (.agg #[V6 7, sv [], V3 none 0 0, V6 0, V6 0, V3 aV 2 2]) C3 fm.f6 fun hq cp => (nq (i9 (d8 (c9 ?_)))))
    cases oi eT
    refine c9 ?_
    cases oi W
    have fn := cp.nil 9 1
    exact ez results99 C3 cp m0 ⟨none, 0, 0, aV, 2, 2, eU, eV, eW, fi, rfl, fn.s, (by decide : d9 7), (by decide : ([] : k6).length ≤ maxLen), (b7.nil _ _), I0, I0, fk, (fe.mono fj), fg⟩
   refine i6 (o0 ?_)
   cases oi bD
   exact qd ⟨_, cf, cg, ch, none, 0, 0, none, 0, 0, eE, rfl, rfl, bB, bC, (aq.mono bC), ar, I0, (by decide : ([] : k6).length ≤ maxLen), (b7.nil _ _), I0, I0, (b7.nil _ _)⟩
  rintro _ hr ⟨b, bk, bl, bm, ad, ae, af, ag, ah, ai, X, rfl, rfl, fo, ht, fp, fq, hu, hv, hw, hx, hy, hz⟩
  have W := C8 W
  refine qr (lv (A5 (cs := #[V6 8, sv [], V3 none 0 0, V6 0, V6 0, V3 none 0 0]) a8q C3 rfl (by kernel_rfl)) (al C3 fo fun Y hA fr => ?_))
  have fs : SH _ _ _ _ _ [q8 Y [V6 0, sv [], V3 none 0 0, V6 0, V6 0, V3 none 0 0] 42, _, _] := fr
  refine ls [V6 8, sv [], V3 none 0 0, V6 0, V6 0, V3 none 0 0] (.agg #[V6 8, sv [], V3 none 0 0, V6 0, V6 0, V3 none 0 0]) C3 fs fun hB ft => (P6 (mv rfl ?_))
  obtain ⟨hC, fu, fv⟩ := ob W
  have cq := ft.f1
  refine lk a2C (u7 F cq.e1 fp fq (by decide : d9 2) fu) ?_
  rintro hD hE ⟨fw, fx, fy, bF, rfl, fz, hF, fA, fB⟩
  have fC := (cq.c1 fz).t3
  refine lv (s6 rfl rfl) (av rfl (nq ?_))
  obtain ⟨c, fD, fE⟩ := ob fv
  refine j4 (fun E' w' => ∃ aW aX aY H I J O R S T, E' = [(0, pt g1), (4, pt q), (5, pt Y)] ∧ SH w K (List.flatMap B6.gs [q8 g1 [V3 l m o, V6 q0.p_] 145]) w' T [q8 g1 [V3 aW aX aY, V6 c.1.p_] 145, q8 q [V6 b.2.Kind, sv b.2.Field, V3 ad ae af, V6 b.2.From, V6 b.2.To, V3 ag ah ai] 42, q8 Y [V6 c.2.Kind, sv c.2.Field, V3 H I J, V6 c.2.From, V6 c.2.To, V3 O R S] 42, tail (V3 H I J) 9 1, tail (V3 O R S) 42 6] ∧ H6 bF T ∧ b7 tU8 T aW aX aY c.1.b_ ∧ d9 c.1.p_ ∧ d9 c.2.Kind ∧ c.2.Field.length ≤ maxLen ∧ b7 B8 T H I J c.2.Words ∧ d9 c.2.From ∧ d9 c.2.To ∧ b7 E4 T O R S c.2.Kids) ?_ ?_
  ·refine i5 ?_
   obtain ⟨hG, fF, fG⟩ := ob fD
   have fH := fC.nil 9 1
   have fI := fH.nil 42 6
   refine qw (fun (a : Int × u5 × r5) E' w' => ∃ aZ ba bb A B C aa ab ac D, E' = [(0, pt g1), (1, V6 q1), (4, pt q), (5, pt Y), (6, V6 a.1)] ∧ SH w K (List.flatMap B6.gs [q8 g1 [V3 l m o, V6 q0.p_] 145]) w' D [q8 g1 [V3 aZ ba bb, V6 a.2.1.p_] 145, q8 q [V6 b.2.Kind, sv b.2.Field, V3 ad ae af, V6 b.2.From, V6 b.2.To, V3 ag ah ai] 42, q8 Y [V6 a.2.2.Kind, sv a.2.2.Field, V3 A B C, V6 a.2.2.From, V6 a.2.2.To, V3 aa ab ac] 42, tail (V3 A B C) 9 1, tail (V3 aa ab ac) 42 6] ∧ H6 bF D ∧ d9 a.1 ∧ b7 tU8 D aZ ba bb a.2.1.b_ ∧ d9 a.2.1.p_ ∧ d9 a.2.2.Kind ∧ a.2.2.Field.length ≤ maxLen ∧ b7 B8 D A B C a.2.2.Words ∧ d9 a.2.2.From ∧ d9 a.2.2.To ∧ b7 E4 D aa ab ac a.2.2.Kids) fF ⟨fw, fx, fy, none, 0, 0, none, 0, 0, bF, rfl, fI.f1.f3.f4.f4, kr, (l9 _), fA, fB, (by decide : d9 8), (by decide : ([] : k6).length ≤ maxLen), (b7.nil _ _), I0, I0, (b7.nil _ _)⟩ ?_
   rintro a _ hH hI fJ fK ⟨aZ, ba, bb, A, B, C, aa, ab, ac, D, rfl, cr, ct, hJ, cu, cv, cw, cx, cy, cz, cA, cB⟩
   refine k8 (sr (mv rfl (lv (E5 rfl rfl) (nq (B5 fJ rfl (fun fL bG => ?_) (fun fL bG => ?_))))))
   ·refine i6 (qs (i5 ?_))
    have bc := cr.drew
    refine wh1 (fun w' => E7 D w') (fun w' => y7 Y [V6 a.2.2.Kind, sv a.2.2.Field, V3 A B C, V6 a.2.2.From, V6 a.2.2.To, V3 aa ab ac] w') 9 [(1, 7), (1, 8), (1, 9), (7, 8), (7, 9), (8, 9)] mixed (bc.hasK kr) (fun _ => bc.hasObj (.tail _ (.tail _ (.head _)))) (gt (b8 Q2 rfl) (gf (fun _ h => y2 a2P rfl rfl h) (gt (d6 rfl) (gt (d6 rfl) (gt (F2 rfl rfl) (gn ?_))))))
    obtain ⟨y, fM, fN⟩ := ob bG
    refine lk b2J (ih bc.e1 cu cv (l9 _) fM) ?_
    rintro hK hL ⟨bH, bI, bJ, bK, bL, bM, fO, fP, fQ, hM, rfl, G, fR, fS, fT, fU, fV, fW, fX, fY⟩
    have bN := (bc.c1 G).t7
    refine d7 (qh (bN.hasK G.le) (fun _ => bN.hasObj (.tail _ (.tail _ (.tail _ (.tail _ (.head _)))))) (gn (lb E4 (.agg #[V6 y.1.Kind, sv y.1.Field, V3 bH bI bJ, V6 y.1.From, V6 y.1.To, V3 bK bL bM]) [V6 y.1.Kind, sv y.1.Field, V3 bH bI bJ, V6 y.1.From, V6 y.1.To, V3 bK bL bM] y.1 underlying40 C3 (J0 ⟨bH, bI, bJ, bK, bL, bM, rfl, fR, fS, fT, fU, fV, fW⟩) bN fun hN hO hP U fZ bO => (d7 (qh (bO.hasK (G.le.trans U)) (fun _ => bO.hasObj (.tail _ (.tail _ (.tail _ (.tail _ (.tail _ (.head _))))))) (gn ?_))))))
    obtain ⟨hQ, ga, gb⟩ := ob fN
    refine lp underlying40 C3 (cB.mono (G.le.trans U)) fZ ga bO.f7 fun bP bQ bR hR gc aj gd bS => (d7 (qh (bS.hasK ((G.le.trans U).trans aj)) (fun _ => bS.hasObj (.tail _ (.tail _ (.tail _ (.tail _ (.tail _ (.tail _ (.head _)))))))) (gt (b8 Q2 rfl) (gn (ls [V6 a.2.2.Kind, sv a.2.2.Field, V3 A B C, V6 a.2.2.From, V6 a.2.2.To, V3 bP bQ bR] (V3 bP bQ bR) a2P bS.f6 fun hT cC => (d7 (qh (cC.hasK ((G.le.trans U).trans aj)) (fun h => nomatch h) (gd' (o0 (j6 (i7 ?_)))))))))))
    refine mv rfl (lv (F2 rfl rfl) (av rfl (d7 ?_)))
    cases oi gb
    exact qd ⟨_, rfl, fO, fP, fQ, A, B, C, bP, bQ, bR, gc, rfl, cC.f1.f7.f2.f7.f7.s, (((ct.trans G.le).trans U).trans aj), (l9 _), (fX.mono (U.trans aj)), fY, cw, cx, (cy.mono ((G.le.trans U).trans aj)), cz, cA, gd⟩
   refine q7 (d4 (d4 ?_))
   cases oi bG
   cases fK _ rfl
   refine j5 ?_
   cases oi fG
   exact qd ⟨aZ, ba, bb, A, B, C, aa, ab, ac, D, rfl, cr, ct, cu, cv, cw, cx, cy, cz, cA, cB⟩
  rintro _ hU ⟨aW, aX, aY, H, I, J, O, R, S, T, rfl, cD, hV, ge, gg, gj, gk, gl, gm, go, gp⟩
  refine qr (lv (l3 (ds := [V6 c.2.Kind, sv c.2.Field, V3 H I J, V6 c.2.From, V6 c.2.To, V3 O R S]) C3 rfl m2 cD rfl rfl) (lw [V6 c.2.Kind, sv c.2.Field, V3 H I J, V6 c.2.From, V6 c.2.To, V3 O R S] C3 cD.f1 fun hW cE => (nq (i9 ?_))))
  cases oi fE
  exact ez results99 C3 cE m0 ⟨H, I, J, O, R, S, aW, aX, aY, T, rfl, cE.f1.f4.f4.s, gj, gk, gl, gm, go, gp, ge, gg⟩
end Go.Proofs.YtmkhlppjphodfaaGreatDoor
