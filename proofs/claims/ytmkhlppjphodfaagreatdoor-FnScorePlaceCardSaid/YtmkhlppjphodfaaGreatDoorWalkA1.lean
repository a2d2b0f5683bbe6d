/-
 Walks of the functions. Printed by gen.py.
-/
import Derived.Test.YtmkhlppjphodfaaGreatDoorFacts
set_option linter.unusedVariables false
set_option linter.unusedSectionVars false
set_option maxRecDepth 100000
namespace Go.Proofs.YtmkhlppjphodfaaGreatDoor
set_option maxHeartbeats 4000000
open Go Go.Fk Go.RowKit Tryz
variable (F : Nat) {w : World} {K : C5} {Z : List Nat} {g1 g2 g3 : Nat} {A B C D G H I J O R S T : Option Addr} {a b c d f i k l m n o p q s v x y aa ab ac ad ae af ag : Nat}
variable [dr : Dr]

theorem a8m {q0 : List UInt8} {r : u5} (hS : SH w K [] w K []) (c : b7 tU8 K A a b q0) (hm : a0E F q0 = some r) :
  Calls prog 52 #[V3 A a b] w fun e w' => ∃ g_1 a_2 n_3 c_4 K', e = .returned (.pointer (some ⟨g_1, 0, none⟩)) ∧ SH w K [] w' K' [q8 g_1 [V3 a_2 n_3 c_4, V6 r.p_] 145] ∧ b7 tU8 K' a_2 n_3 c_4 r.b_ ∧ d9 r.p_ := by
 rw [a0E] at hm
 refine ci func52 rfl ntmps52 (sr (lv (r9 (v := .pointer none) rfl) (P6 (mv rfl (lv (k9 underlying22 rfl c) (lv (E5 rfl rfl) (nq (S3 rfl (fun d => ?_) (fun d => ?_)))))))))
 ·have f := a1R d hm
  refine i7 (mv rfl ?_)
  obtain ⟨G, q, s⟩ := ob f
  refine b1k (t := tU8) wn rfl underlying22 tf5 rfl rfl c q fun i k l x => (av rfl (nr (mv rfl (lv (A5 (cs := #[V3 i k l, V6 0]) b7L b7P rfl (by kernel_rfl)) (bx rfl hS fun m H y => ?_)))))
  have B : SH _ _ _ _ _ [q8 m [V3 i k l, V6 0] 145] := y
  refine av rfl (nq (i9 ?_))
  cases oi s
  exact ey results52 ⟨m, i, k, l, K, rfl, B, x, I0⟩
 have f := a1Q d hm
 refine i6 (qr (mv rfl (lv (A5 (cs := #[V3 A a b, V6 0]) b7L b7P rfl (by kernel_rfl)) (bx rfl hS fun o I C => ?_))))
 have D : SH _ _ _ _ _ [q8 o [V3 A a b, V6 0] 145] := C
 refine av rfl (nq (i9 ?_))
 cases oi f
 exact ey results52 ⟨o, A, a, b, K, rfl, D, c, I0⟩

theorem a3A {q0 : List k6} {q1 : k6} {r : Bool} (hS : SH w K [] w K []) (o : b7 B8 K A a b q0) (X : q1.length ≤ maxLen) (hm : X4 F q0 q1 = some r) :
  Calls prog 89 #[V3 A a b, sv q1] w (R_b w K r) := by
 rw [X4] at hm
 refine ci func89 rfl ntmps89 (sr (lv (M7 rfl) (P6 (lv (L3 rfl) (nq ?_)))))
 obtain ⟨x, y, c⟩ := ob hm
 refine j4 (IE x w K [] K [] []) ?_ ?_
 ·refine i5 ?_
  obtain ⟨Y, B, q⟩ := ob y
  refine qw (fun (i : Int) => IW w K [] K [(0, V3 A a b), (1, sv q1), (5, V6 i)] [] (d9 i)) B ⟨K, rfl, hS, kr, I0⟩ ?_
  rintro i _ aa ab C s ⟨k, rfl, d, f, ac⟩
  refine k8 (sr (mv rfl (mv rfl (lv (k9 underlying23 rfl (o.mono f)) (lv (n8 rfl rfl) (nq (B5 C rfl (fun D l => ?_) (fun D l => ?_))))))))
  ·refine i6 (qs (i5 (sr (mv rfl (mv rfl ?_)))))
   obtain ⟨G, H, I⟩ := ob l
   refine li underlying23 D9 (o.mono f) H fun J O ad R S => ?_
   obtain ⟨rfl, ae⟩ := R
   have T : D0 _ J O [sv G] := S
   refine lv (u0 D9 rfl d (T 0 _ rfl)) (mv rfl (lv (H0 rfl rfl) (nq (B5 I rfl (fun U m => ?_) (fun U m => ?_)))))
   ·refine sr (lv (r_t rfl) (nq (i9 (d8 (c9 (c9 ?_))))))
    cases oi m
    cases s _ rfl
    refine d8 (c9 ?_)
    cases oi q
    refine c9 ?_
    cases oi c
    exact ey results89 ⟨k, rfl, d⟩
   refine i6 (o0 (j6 (i7 (mv rfl (lv (s6 rfl rfl) (av rfl (d7 ?_)))))))
   cases oi m
   exact qd ⟨_, rfl, k, rfl, d, f, (l9 _)⟩
  refine q7 (d4 (d4 ?_))
  cases oi l
  cases s _ rfl
  refine j5 ?_
  cases oi q
  exact H9 ⟨_, k, rfl, rfl, d, f⟩ trivial
 rintro _ af ⟨s9, V, rfl, rfl, W, ah⟩
 have c := C8 c
 refine qr (lv (M7 rfl) (nq (i9 ?_)))
 cases oi c
 exact ey results89 ⟨V, rfl, W⟩

theorem a4V {r : (List k6)} (hS : SH w K [] w K []) (hm : a1c F  = some r) :
  Calls prog 199 #[] w fun e w' => ∃ a_1 n_2 c_3 K', e = .returned (V3 a_1 n_2 c_3) ∧ SH w K [] w' K' [tail (V3 a_1 n_2 c_3) 9 1] ∧ b7 B8 K' a_1 n_2 c_3 r := by
 rw [a1c] at hm
 refine ci func199 rfl ntmps199 (sr (lv (r_n rfl) (nr (bw [[105, 110, 103], [101, 100], [101, 115], [108, 121], [115]] underlying23 D9 hS fun a f b i c d => (av rfl (nq (i9 ?_)))))))
 cases oi hm
 exact ey results199 ⟨a, 5, 5, b, rfl, d, c⟩

theorem a4W {q0 : k6} {r : k6} (hS : SH w K [] w K []) (q : q0.length ≤ maxLen) (hm : Q7 F q0 = some r) :
  Calls prog 159 #[sv q0] w fun e w' => ∃ K', e = .returned (sv r) ∧ SH w K [] w' K' [] ∧ r.length ≤ maxLen := by
 rw [Q7] at hm
 refine ci func159 rfl ntmps159 (sr (lv (r_s rfl) (P6 (lv (L3 rfl) (nq ?_)))))
 obtain ⟨I, J, b⟩ := ob hm
 refine j4 (IE I w K [] K [(0, sv q0)] []) ?_ ?_
 ·refine i5 ?_
  obtain ⟨au, O, s⟩ := ob J
  refine qw (fun (c : Int) => IW w K [] K [(0, sv q0), (3, V6 c)] [] (d9 c)) O ⟨K, rfl, hS, kr, I0⟩ ?_
  rintro c _ aw ax R x ⟨ay, rfl, y, A, az⟩
  refine k8 (sr (mv rfl ?_))
  obtain ⟨aA, S, T⟩ := ob R
  refine lk b7y (a4V F y.enter0  S) ?_
  rintro aB aC ⟨aD, aE, aF, U, rfl, d, V⟩
  have f := (y.c0 d).t1
  refine lv (k9 underlying23 rfl V) (lv (n8 rfl rfl) (nq (B5 T rfl (fun W i => ?_) (fun W i => ?_))))
  ·refine i6 (qs (i5 (sr ?_)))
   obtain ⟨aG, X, Y⟩ := ob i
   refine lk b7y (a4V F f.enter0  X) ?_
   rintro aH aI ⟨aJ, aK, aL, k, rfl, B, aa⟩
   have l := (f.c0 B).t2
   refine mv rfl ?_
   obtain ⟨C, ab, ac⟩ := ob Y
   refine li underlying23 D9 aa ab fun ad ae aM af ag => ?_
   obtain ⟨rfl, aN⟩ := af
   have ah : D0 _ ad ae [sv C] := ag
   refine lv (u0 D9 rfl l (ah 0 _ rfl)) (av rfl (nr (mv rfl (lv (F1 underlying9 rfl) (mv rfl (lv (F1 underlying9 rfl) (lv (F2 rfl rfl) (av rfl (ns ?_)))))))))
   obtain ⟨ai, aj, ak⟩ := ob ac
   refine j4 (IV w K [] k [(0, sv q0), (3, V6 c), (5, V6 (u6 ((q0.length : Int) - (C.length : Int)))), (29, .bool ai)] []) ?_ ?_
   ·refine i7 (mv rfl (lv (a2F rfl rfl) (mv rfl (bt aj (fun a m => ?_) (fun a m => ?_)))))
    ·refine lg a (d6 rfl) (lg a (d6 rfl) ?_)
     obtain ⟨aO, al, am⟩ := ob m
     refine lg a (T5 underlying9 rfl rfl al) (lg a (d6 rfl) (lg a (H0 rfl rfl) (lv (j3 rfl a rfl) (d7 ?_))))
     cases oi am
     exact qd ⟨k, rfl, l.s, kr⟩
    iterate 5 refine lu a ?_
    refine lv (F7 rfl a rfl) (d7 ?_)
    cases oi m
    exact qd ⟨k, rfl, l.s, kr⟩
   rintro _ aP ⟨D, rfl, G, an⟩
   refine j6 (B5 ak rfl (fun ao o => ?_) (fun ao o => ?_))
   ·refine sr (mv rfl (mv rfl ?_))
    obtain ⟨aQ, H, ap⟩ := ob o
    refine lv (b19 underlying9 rfl rfl H) (av rfl (nq (i9 (d8 (c9 (c9 ?_))))))
    cases oi ap
    cases x _ rfl
    refine d8 (c9 ?_)
    cases oi s
    refine c9 ?_
    cases oi b
    exact ey results159 ⟨D, rfl, G, (Y0 q H)⟩
   refine i6 (o0 (j6 (i7 (mv rfl (lv (s6 rfl rfl) (av rfl (d7 ?_)))))))
   cases oi o
   exact qd ⟨_, rfl, D, rfl, G, (((A.trans d.le).trans B.le).trans an), (l9 _)⟩
  refine q7 (d4 (d4 ?_))
  cases oi i
  cases x _ rfl
  refine j5 ?_
  cases oi s
  exact qd ⟨_, U, rfl, rfl, f.s, (A.trans d.le)⟩
 rintro _ w8 ⟨s5, K6, rfl, rfl, ar, aT⟩
 have b := C8 b
 refine qr (mv rfl (av rfl (nq (i9 ?_))))
 cases oi b
 exact ey results159 ⟨K6, rfl, ar, q⟩

theorem a0L {q0 : k6} {r : k6} (hS : SH w K [] w K []) (o : q0.length ≤ maxLen) (hm : T9 F q0 = some r) :
  Calls prog 105 #[sv q0] w fun e w' => ∃ K', e = .returned (sv r) ∧ SH w K [] w' K' [] ∧ r.length ≤ maxLen := by
 rw [T9] at hm
 refine ci func105 rfl ntmps105 (sr (lv (r_s rfl) (ns ?_)))
 obtain ⟨i, q, s⟩ := ob hm
 refine j4 (IW w K [] K [(0, sv i)] [] (i.length ≤ maxLen)) ?_ ?_
 ·refine i5 ?_
  obtain ⟨W, x, y⟩ := ob q
  refine qw (fun (a : k6) => IW w K [] K [(0, sv a)] [] (a.length ≤ maxLen)) x ⟨K, rfl, hS, kr, o⟩ ?_
  rintro a _ X Y A B ⟨aa, rfl, k, l, b⟩
  refine k8 (sr (mv rfl ?_))
  obtain ⟨ab, C, D⟩ := ob A
  refine lk b7t (a4W F k.enter0 b C) ?_
  rintro ac ad ⟨G, rfl, c, ae⟩
  have d := (k.c0 c).t0
  refine mv rfl (lv (a0o rfl rfl) (nq (B5 D rfl (fun H f => ?_) (fun H f => ?_))))
  ·refine i6 (j6 (i5 (i7 (mv rfl ?_))))
   obtain ⟨af, I, J⟩ := ob f
   refine lk b7t (a4W F d.enter0 b I) ?_
   rintro ag ah ⟨O, rfl, m, R⟩
   have S := (d.c0 m).t0
   refine av rfl (nb ?_)
   cases oi J
   exact qd ⟨_, rfl, O, rfl, S, ((l.trans c.le).trans m.le), R⟩
  refine q7 (d4 (d4 ?_))
  cases oi f
  cases B _ rfl
  refine j5 ?_
  cases oi y
  exact qd ⟨G, rfl, d, (l.trans c.le), b⟩
 rintro _ w7 ⟨T, rfl, U, aj, V⟩
 refine qr (mv rfl (av rfl (nq (i9 ?_))))
 cases oi s
 exact ey results105 ⟨T, rfl, U, V⟩

theorem a29 {q0 : UInt8} {r : UInt8} (hS : SH w K [] w K []) (hm : N5 F q0 = some r) :
  Calls prog 138 #[iv8 q0] w fun e w' => ∃ K', e = .returned (iv8 r) ∧ SH w K [] w' K' [] := by
 rw [N5] at hm
 refine ci func138 rfl ntmps138 (sr (lv (r9 (v := iv8 0) rfl) (ns (i5 (k8 ?_)))))
 obtain ⟨D, G, H⟩ := ob hm
 refine j4 (IV w K [] K [(0, iv8 q0), (3, .bool D)] []) ?_ ?_
 ·refine i7 (mv rfl (lv (a42 (b := (65 : UInt8)) rfl rfl) (mv rfl (bt G (fun c m => ?_) (fun c m => ?_)))))
  ·refine lg c (d6 rfl) (lg c (a43 (b := (90 : UInt8)) rfl rfl) (lv (j3 rfl c rfl) (av rfl (d7 ?_))))
   cases oi m
   exact qd ⟨K, rfl, hS, kr⟩
  refine lu c (lu c (lv (F7 rfl c rfl) (av rfl (d7 ?_))))
  cases oi m
  exact qd ⟨K, rfl, hS, kr⟩
 rintro _ T ⟨d, rfl, l, U⟩
 refine j6 (B5 H rfl (fun I o => ?_) (fun I o => ?_))
 ·refine sr (mv rfl (lv (b3P (b := (32 : UInt8)) rfl rfl) (av rfl (nq (i9 (d8 (c9 ?_)))))))
  cases oi o
  exact ey results138 ⟨d, rfl, l⟩
 refine k8 ?_
 obtain ⟨J, O, R⟩ := ob o
 refine j4 (IV w K [] d [(0, iv8 q0), (12, .bool J)] []) ?_ ?_
 ·refine i7 (mv rfl (lv (a42 (b := (97 : UInt8)) rfl rfl) (mv rfl (bt O (fun f q => ?_) (fun f q => ?_)))))
  ·refine lg f (d6 rfl) (lg f (a43 (b := (122 : UInt8)) rfl rfl) (lv (j3 rfl f rfl) (mv rfl (bt q (fun a s => ?_) (fun a s => ?_)))))
   ·refine lu a (lu a (lu a (u1 (uu rfl rfl) rfl (u1 (uu rfl rfl) rfl (lu a (lv (K5 rfl a rfl) (av rfl (d7 ?_))))))))
    cases oi s
    exact qd ⟨d, rfl, l, kr⟩
   refine lg a (d6 rfl) (lg a (a42 (b := (48 : UInt8)) rfl rfl) (lg a (d6 rfl) (bt s (fun i x => ?_) (fun i x => ?_))))
   ·refine lg i (d6 rfl) (lg i (a43 (b := (57 : UInt8)) rfl rfl) (lg a (j3 rfl i rfl) (lv (j9 rfl a rfl) (av rfl (d7 ?_)))))
    cases oi x
    exact qd ⟨d, rfl, l, kr⟩
   refine lu i (lu i (lg a (F7 rfl i rfl) (lv (j9 rfl a rfl) (av rfl (d7 ?_)))))
   cases oi x
   exact qd ⟨d, rfl, l, kr⟩
  refine lu f (lu f (lv (F7 rfl f rfl) (mv rfl (lg rfl (d6 rfl) (lg rfl (a42 (b := (48 : UInt8)) rfl rfl) (lg rfl (d6 rfl) (bt q (fun k y => ?_) (fun k y => ?_))))))))
  ·refine lg k (d6 rfl) (lg k (a43 (b := (57 : UInt8)) rfl rfl) (lg rfl (j3 rfl k rfl) (lv (j9 rfl rfl rfl) (av rfl (d7 ?_)))))
   cases oi y
   exact qd ⟨d, rfl, l, kr⟩
  refine lu k (lu k (lg rfl (F7 rfl k rfl) (lv (j9 rfl rfl rfl) (av rfl (d7 ?_)))))
  cases oi y
  exact qd ⟨d, rfl, l, kr⟩
 rintro _ V ⟨B, rfl, C, W⟩
 refine j6 (B5 R rfl (fun S A => ?_) (fun S A => ?_))
 ·refine sr (mv rfl (av rfl (nq (i9 (d8 (c9 ?_))))))
  cases oi A
  exact ey results138 ⟨B, rfl, C⟩
 refine i6 (o0 (qr (lv (r9 (v := iv8 0) rfl) (nq (i9 ?_)))))
 cases oi A
 exact ey results138 ⟨B, rfl, C⟩

theorem a8h {q0 : k6} {r : (List S4)} (hS : SH w K [] w K []) (bY : q0.length ≤ maxLen) (hm : a0z F q0 = some r) :
  Calls prog 230 #[sv q0] w fun e w' => ∃ a_1 n_2 c_3 K', e = .returned (V3 a_1 n_2 c_3) ∧ SH w K [] w' K' [tail (V3 a_1 n_2 c_3) 169 4] ∧ b7 a3E K' a_1 n_2 c_3 r := by
 rw [a0z] at hm
 refine ci func230 rfl ntmps230 (sr (lv (r_n rfl) (nr (b0 a3E underlying166 a1Z hS fun a2 w3 W ca aB aC => (av rfl (P6 (lv (L3 rfl) (nq ?_))))))))
 obtain ⟨o8, h9, aF⟩ := ob hm
 refine j4 (fun E' w' => ∃ B C D G, E' = [(3, V3 B C D)] ∧ SH w K [] w' G [tail (V3 B C D) 169 4] ∧ H6 W G ∧ b7 a3E G B C D o8) ?_ ?_
 ·refine i5 ?_
  obtain ⟨cb, aG, aH⟩ := ob h9
  refine qw (fun (a : (List S4) × Int) E' w' => ∃ c d f H, E' = [(0, sv q0), (3, V3 c d f), (4, V6 a.2)] ∧ SH w K [] w' H [tail (V3 c d f) 169 4] ∧ H6 W H ∧ b7 a3E H c d f a.1 ∧ d9 a.2) aG ⟨a2, 0, 0, W, rfl, aC, kr, aB, I0⟩ ?_
  rintro a _ cc cd aI aJ ⟨c, d, f, H, rfl, ap, X, I, aq⟩
  refine k8 (sr (mv rfl (mv rfl (lv (F1 underlying9 rfl) (lv (n8 rfl rfl) (nq (B5 aI rfl (fun aK Y => ?_) (fun aK Y => ?_))))))))
  ·refine i6 (qs (i5 (sr (b0 tU8 underlying22 tf5 ap fun aL ce aa s aM aN => (av rfl (nr (mv rfl (av rfl (ns ?_)))))))))
   obtain ⟨k, aO, aP⟩ := ob Y
   refine j4 (fun E' w' => ∃ J O R l, E' = [(0, sv q0), (3, V3 c d f), (4, V6 k.1), (5, V3 J O R), (6, V6 a.2)] ∧ SH w K [] w' l [tail (V3 c d f) 169 4, tail (V3 J O R) 5 1] ∧ H6 aa l ∧ d9 k.1 ∧ b7 tU8 l J O R k.2) ?_ ?_
   ·refine i5 ?_
    obtain ⟨cf, aQ, aR⟩ := ob aO
    refine qw (fun (S : Int × (List UInt8)) E' w' => ∃ m o q x, E' = [(0, sv q0), (3, V3 c d f), (4, V6 S.1), (5, V3 m o q), (6, V6 a.2)] ∧ SH w K [] w' x [tail (V3 c d f) 169 4, tail (V3 m o q) 5 1] ∧ H6 aa x ∧ d9 S.1 ∧ b7 tU8 x m o q S.2) aQ ⟨aL, 0, 0, aa, rfl, aN.f1, kr, aq, aM⟩ ?_
    rintro S _ cg ch aS aT ⟨m, o, q, x, rfl, ab, ar, aU, au⟩
    refine k8 (k8 ?_)
    obtain ⟨aV, aW, aX⟩ := ob aS
    refine j4 (IV w K [] x [(0, sv q0), (3, V3 c d f), (4, V6 S.1), (5, V3 m o q), (6, V6 a.2), (26, .bool aV)] [tail (V3 c d f) 169 4, tail (V3 m o q) 5 1]) ?_ ?_
    ·refine i7 (mv rfl (mv rfl (lv (F1 underlying9 rfl) (lv (n8 rfl rfl) (mv rfl (bt aW (fun i ac => ?_) (fun i ac => ?_)))))))
     ·refine lg i (d6 rfl) (lg i (d6 rfl) ?_)
      obtain ⟨aY, aZ, ba⟩ := ob ac
      refine lg i (G8 underlying9 rfl rfl aZ) ?_
      obtain ⟨cj, bb, bc⟩ := ob ba
      refine x9 (wg rfl rfl i) rfl (x8 (vs := [iv8 aY]) b5o rfl) (a29 F ab.enter0  bb) ?_
      rintro ck cl ⟨bd, rfl, aw⟩
      refine ⟨_, rfl, ?_⟩
      have be := (ab.c0 aw).t2
      refine lg i (a44 (b := (0 : UInt8)) rfl rfl) (lv (j3 rfl i rfl) (d7 ?_))
      cases oi bc
      exact qd ⟨bd, rfl, be, aw.le⟩
     iterate 5 refine lu i ?_
     refine lv (F7 rfl i rfl) (d7 ?_)
     cases oi ac
     exact qd ⟨x, rfl, ab, kr⟩
    rintro _ cm ⟨bf, rfl, ad, V⟩
    refine j6 (B5 aX rfl (fun bg ae => ?_) (fun bg ae => ?_))
    ·refine i6 (j6 (i5 (sr (mv rfl (mv rfl (mv rfl ?_))))))
     obtain ⟨cn, bh, bi⟩ := ob ae
     refine lv (G8 underlying9 rfl rfl bh) ?_
     obtain ⟨af, bj, bk⟩ := ob bi
     refine lk b5o (a29 F ad.enter0  bj) ?_
     rintro cp cq ⟨cr, rfl, ag⟩
     have bl := (ad.c0 ag).t2
     refine lb tU8 (iv8 af) [iv8 af] af underlying22 tf5 rfl bl fun ct cu cv ax bm bn => ?_
     obtain ⟨cw, bo, bp⟩ := ob bk
     refine lp underlying22 tf5 (au.mono ((V.trans ag.le).trans ax)) bm bo bn.f2 fun bq br bs cx bu bv bx bz => (av rfl (nq (i7 (mv rfl (lv (s6 rfl rfl) (av rfl (nb ?_)))))))
     cases oi bp
     exact qd ⟨_, rfl, bq, br, bs, bu, rfl, bz.f2.s, ((((ar.trans V).trans ag.le).trans ax).trans bv), (l9 _), bx⟩
    refine q7 (d4 (d4 ?_))
    cases oi ae
    cases aT _ rfl
    refine j5 ?_
    cases oi aR
    exact qd ⟨m, o, q, bf, rfl, ad, (ar.trans V), aU, (au.mono V)⟩
   rintro _ cy ⟨J, O, R, l, rfl, ay, y, bA, ah⟩
   refine qs (sr (mv rfl (lv (k9 underlying22 rfl ah) (lv (E5 rfl rfl) (nq ?_)))))
   obtain ⟨T, bB, bC⟩ := ob aP
   refine j4 (fun E' w' => ∃ ai aj ak U, E' = [(0, sv q0), (3, V3 c d f), (4, V6 k.1), (5, V3 ai aj ak), (6, V6 a.2)] ∧ SH w K [] w' U [tail (V3 c d f) 169 4] ∧ H6 l U ∧ b7 tU8 U ai aj ak T) ?_ ?_
   ·refine B5 bB rfl (fun bD al => ?_) (fun bD al => ?_)
    ·refine i7 (mv rfl ?_)
     obtain ⟨cz, bE, bF⟩ := ob al
     refine b1k (t := tU8) wn rfl underlying22 tf5 rfl rfl ah bE fun bG bH bI bJ => (av rfl (d7 ?_))
     cases oi bF
     exact qd ⟨bG, bH, bI, l, rfl, ay.s, kr, bJ⟩
    refine i6 ?_
    cases oi al
    exact qd ⟨J, O, R, l, rfl, ay.s, kr, ah⟩
   rintro _ cA ⟨ai, aj, ak, U, rfl, am, A, an⟩
   refine qr (mv rfl (lv (k9 underlying22 rfl an) (lv (E5 rfl rfl) (nq (B5 bC rfl (fun bK ao => ?_) (fun bK ao => ?_))))))
   ·refine i7 (mv rfl (mv rfl (lv (b5V underlying22 underlying5 underlying9 rfl an am) (mv rfl (lv (k9 underlying166 rfl (I.mono ((s.trans y).trans A))) (mv rfl (mv rfl (lv (A5 (cs := #[sv T, V6 (a.1.length : Int), V6 a.2, V6 k.1]) b7N a1Z rfl (by kernel_rfl)) (lb a3E (.agg #[sv T, V6 (a.1.length : Int), V6 a.2, V6 k.1]) [sv T, V6 (a.1.length : Int), V6 a.2, V6 k.1] (S4.mk T (a.1.length : Int) a.2 k.1) underlying166 a1Z ⟨rfl, (b7.max an), (a3o (b7.max (I.mono ((s.trans y).trans A)))), aq, bA⟩ am fun cB cC cD az bL bM => ?_)))))))))
    obtain ⟨cE, bN, bO⟩ := ob ao
    refine lp underlying166 a1Z (b7.mono (((s.trans y).trans A).trans az) I) bL bN bM.f1 fun bP bQ bR cF bS bT bU bV => (av rfl (nb (j6 (i7 (mv rfl (lv (s6 rfl rfl) (av rfl (d7 ?_))))))))
    cases oi bO
    exact qd ⟨_, rfl, bP, bQ, bR, bS, rfl, bV.s, (((((X.trans s).trans y).trans A).trans az).trans bT), bU, (l9 _)⟩
   refine i6 (o0 (j6 (i7 (mv rfl (lv (s6 rfl rfl) (av rfl (d7 ?_)))))))
   cases oi ao
   exact qd ⟨_, rfl, c, d, f, U, rfl, am, (((X.trans s).trans y).trans A), (I.mono ((s.trans y).trans A)), (l9 _)⟩
  refine q7 (d4 (d4 ?_))
  cases oi Y
  cases aJ _ rfl
  refine j5 ?_
  cases oi aH
  exact qd ⟨c, d, f, H, rfl, ap, X, I⟩
 rintro _ cG ⟨B, C, D, G, rfl, bW, cH, bX⟩
 refine qr (mv rfl (av rfl (nq (i9 ?_))))
 cases oi aF
 exact ey results230 ⟨B, C, D, G, rfl, bW, bX⟩

theorem a8i {q0 : q9} {q1 : k6} {r : (List y9)} (hS : SH w K [] w K []) (ac : b7 B8 K A a b q0.Stops) (bQ : b7 I4 K B c d q0.Syns) (ak : q1.length ≤ maxLen) (hm : a0A F q0 q1 = some r) :
  Calls prog 183 #[.agg #[V3 A a b, V3 B c d], sv q1] w fun e w' => ∃ a_1 n_2 c_3 K', e = .returned (V3 a_1 n_2 c_3) ∧ SH w K [] w' K' [tail (V3 a_1 n_2 c_3) 117 2] ∧ b7 J7 K' a_1 n_2 c_3 r := by
 rw [a0A] at hm
 refine ci func183 rfl ntmps183 (sr (bx rfl hS fun s bR al => ?_))
 have am : SH _ _ _ _ _ [q8 s [V3 A a b, V3 B c d] 26] := al
 refine lv (r_n rfl) (nr (b0 J7 underlying114 F9 am fun an bS bT ad ao ae => (av rfl (nr (mv rfl ?_)))))
 obtain ⟨bU, ap, aq⟩ := ob hm
 refine lk b9r (a8h F ae.enter0 ak ap) ?_
 rintro bV bW ⟨af, ag, ah, V, rfl, O, R⟩
 have ar := (ae.c0 O).t3
 refine av rfl (P6 (lv (L3 rfl) (nq ?_)))
 obtain ⟨au, aw, ax⟩ := ob aq
 refine j4 (fun E' w' => ∃ x y C D, E' = [(5, V3 x y C)] ∧ SH w K [] w' D [tail (V3 x y C) 117 2] ∧ H6 V D ∧ b7 J7 D x y C au) ?_ ?_
 ·refine i5 ?_
  obtain ⟨bX, ay, az⟩ := ob aw
  have aA := ar.f1.f2.sb (sk (sk (sd sz)))
  refine qw (fun (G : (List y9) × Int) E' w' => ∃ l m o H, E' = [(2, pt s), (5, V3 l m o), (6, V3 af ag ah), (7, V6 G.2)] ∧ SH w K [] w' H [q8 s [V3 A a b, V3 B c d] 26, tail (V3 l m o) 117 2] ∧ H6 V H ∧ b7 J7 H l m o G.1 ∧ d9 G.2) ay ⟨an, 0, 0, V, rfl, aA, kr, (ao.mono O.le), I0⟩ ?_
  rintro G _ bY bZ aB aC ⟨l, m, o, H, rfl, S, f, W, ca⟩
  refine k8 (sr (mv rfl (mv rfl (lv (k9 underlying166 rfl (R.mono f)) (lv (n8 rfl rfl) (nq (B5 aB rfl (fun aD X => ?_) (fun aD X => ?_))))))))
  ·refine i6 (qs (i5 (sr (mv rfl (mv rfl ?_)))))
   obtain ⟨T, aE, aF⟩ := ob X
   refine li underlying166 a1Z (R.mono f) aE fun aG aH cb aI aJ => ?_
   obtain ⟨rfl, aK, cc, cd, ce⟩ := aI
   have aL : D0 _ aG aH [sv T.Text, V6 T.At, V6 T.From, V6 T.To] := aJ
   refine fa a6g rfl (lv (u0 D9 rfl S (aL 0 _ rfl)) ?_)
   obtain ⟨I, aM, aN⟩ := ob aF
   refine lk b5k (a0L F S.enter0 aK aM) ?_
   rintro cf cg ⟨aO, rfl, i, ai⟩
   have aP := (S.c0 i).t2
   refine av rfl (ns ?_)
   obtain ⟨aQ, aR, aS⟩ := ob aN
   refine j4 (IV w K [] aO [(2, pt s), (5, V3 l m o), (6, V3 af ag ah), (7, V6 G.2), (8, sv I), (39, .bool aQ)] [q8 s [V3 A a b, V3 B c d] 26, tail (V3 l m o) 117 2]) ?_ ?_
   ·refine C2 mixed (by kernel_rfl) aP (kv (b8 a1w rfl) (kh (u2 O5 rfl m0 rfl) (km rfl (km rfl ?_))))
    obtain ⟨U, aT, aU⟩ := ob aR
    refine ki underlying166 a1Z (R.mono (f.trans i.le)) aT fun aV aW ch aX aY => ?_
    obtain ⟨rfl, aZ, cj, ck, cl⟩ := aX
    have ba : D0 _ aV aW [sv U.Text, V6 U.At, V6 U.From, V6 U.To] := aY
    refine kv (b8 a6g rfl) (kh (z8 D9 rfl (ba 0 _ rfl)) ?_)
    obtain ⟨cm, bb, bc⟩ := ob aU
    refine kc b70 (fun _ _ bd be => (a3A F) bd.enter0 (b7.mono ((((ad.trans O.le).trans f).trans i.le).trans be) ac) aZ bb) (kv (y4 rfl) (km rfl (bt bc (fun k Y => ?_) (fun k Y => ?_))))
    ·refine kg k (b8 a1w rfl) (kgh k (u2 O5 rfl m0 rfl) (kg k (d6 rfl) ?_))
     obtain ⟨cn, bf, bg⟩ := ob Y
     refine kcg k b70 (fun _ _ bh bi => (a3A F) bh.enter0 (b7.mono ((((ad.trans O.le).trans f).trans i.le).trans bi) ac) ai bf) (kg k (y4 rfl) (kv (j3 rfl k rfl) (z7 ?_)))
     rintro cp ⟨bj, bk, bl⟩
     cases oi bg
     exact qd ⟨bj, rfl, bk, bl⟩
    iterate 5 refine kn k ?_
    refine kv (F7 rfl k rfl) (z7 ?_)
    rintro cq ⟨bm, bn, bo⟩
    cases oi Y
    exact qd ⟨bm, rfl, bn, bo⟩
   rintro _ cr ⟨bp, rfl, aa, J⟩
   refine j6 (B5 aS rfl (fun bq ab => ?_) (fun bq ab => ?_))
   ·refine i7 (mv rfl (mv rfl (mv rfl (mv rfl ?_))))
    obtain ⟨q, br, bs⟩ := ob ab
    refine li underlying166 a1Z (R.mono ((f.trans i.le).trans J)) br fun bu bv ct bz bA => ?_
    obtain ⟨rfl, cu, bB, cv, cw⟩ := bz
    have bC : D0 _ bu bv [sv q.Text, V6 q.At, V6 q.From, V6 q.To] := bA
    refine fa b3s rfl (lv (u0 D8 rfl aa (bC 1 _ rfl)) (lv (A5 (cs := #[sv I, V6 q.At]) b3U F9 rfl (by kernel_rfl)) (lb J7 (.agg #[sv I, V6 q.At]) [sv I, V6 q.At] (y9.mk I q.At) underlying114 F9 ⟨rfl, ai, bB⟩ aa fun cx cy cz aj bD bE => ?_)))
    obtain ⟨cA, bF, bG⟩ := ob bs
    refine lp underlying114 F9 (W.mono ((i.le.trans J).trans aj)) bD bF bE.f2 fun bH bI bJ cB bK bL bM bN => (av rfl (nb (j6 (i7 (mv rfl (lv (s6 rfl rfl) (av rfl (d7 ?_))))))))
    cases oi bG
    exact qd ⟨_, rfl, bH, bI, bJ, bK, rfl, bN.f2.s, ((((f.trans i.le).trans J).trans aj).trans bL), bM, (l9 _)⟩
   refine i6 (o0 (j6 (i7 (mv rfl (lv (s6 rfl rfl) (av rfl (d7 ?_)))))))
   cases oi ab
   exact qd ⟨_, rfl, l, m, o, bp, rfl, aa, ((f.trans i.le).trans J), (W.mono (i.le.trans J)), (l9 _)⟩
  refine q7 (d4 (d4 ?_))
  cases oi X
  cases aC _ rfl
  refine j5 ?_
  cases oi az
  exact qd ⟨l, m, o, H, rfl, S.s, f, W⟩
 rintro _ cC ⟨x, y, C, D, rfl, bO, cD, bP⟩
 refine qr (mv rfl (av rfl (nq (i9 ?_))))
 cases oi ax
 exact ey results183 ⟨x, y, C, D, rfl, bO, bP⟩

theorem F0 {q0 : Int} {q1 : Int} {q2 : Int} {r : Bool} (hS : SH w K [] w K []) (c : d9 q0) (d : d9 q1) (f : d9 q2) (hm : D3 F q0 q1 q2 = some r) :
  Calls prog 87 #[V6 q0, V6 q1, V6 q2] w (R_b w K r) := by
 rw [D3] at hm
 refine ci func87 rfl ntmps87 (sr (lv (M7 rfl) (nr (mv rfl (mv rfl (lv (a2F rfl rfl) (mv rfl (bt hm (fun a b => ?_) (fun a b => ?_)))))))))
 ·refine lg a (d6 rfl) (lg a (d6 rfl) (lg a (R9 rfl rfl) (lv (j3 rfl a rfl) (av rfl (nq (i9 ?_))))))
  cases oi b
  exact ey results87 ⟨K, rfl, hS⟩
 refine lu a (lu a (lu a (lv (F7 rfl a rfl) (av rfl (nq (i9 ?_))))))
 cases oi b
 exact ey results87 ⟨K, rfl, hS⟩

theorem D6 {q0 : k6} {r : Bool} (hS : SH w K [] w K []) (B : q0.length ≤ maxLen) (hm : B0 F q0 = some r) :
  Calls prog 85 #[sv q0] w (R_b w K r) := by
 rw [B0] at hm
 refine ci func85 rfl ntmps85 (sr (lv (M7 rfl) (P6 (lv (L3 rfl) (nq ?_)))))
 obtain ⟨C, D, c⟩ := ob hm
 refine j4 (IE C w K [] K [(0, sv q0)] []) ?_ ?_
 ·refine i5 ?_
  obtain ⟨ap, G, l⟩ := ob D
  refine qw (fun (d : Int) => IW w K [] K [(0, sv q0), (3, V6 d)] [] (d9 d)) G ⟨K, rfl, hS, kr, I0⟩ ?_
  rintro d _ aq ar H m ⟨o, rfl, q, s, au⟩
  refine k8 (sr (mv rfl (mv rfl (lv (F1 underlying9 rfl) (lv (n8 rfl rfl) (nq (B5 H rfl (fun I f => ?_) (fun I f => ?_))))))))
  ·refine i6 (qs (i5 (k8 ?_)))
   obtain ⟨J, O, R⟩ := ob f
   refine j4 (IV w K [] o [(0, sv q0), (3, V6 d), (23, .bool J)] []) ?_ ?_
   ·refine C2 mixed (by kernel_rfl) q (km rfl (km rfl ?_))
    obtain ⟨aw, S, T⟩ := ob O
    refine kv (G8 underlying9 rfl rfl S) ?_
    obtain ⟨ax, U, V⟩ := ob T
    refine kc b5o (fun _ _ W ay => (a29 F) W.enter0  U) (km rfl (km rfl ?_))
    obtain ⟨az, X, Y⟩ := ob V
    refine kv (G8 underlying9 rfl rfl X) (kv (a44 rfl rfl) (km rfl (bt Y (fun a i => ?_) (fun a i => ?_))))
    ·refine kn a (kn a (kn a (kn a (kv (K5 rfl a rfl) (z7 ?_)))))
     rintro aA ⟨aa, ab, ac⟩
     cases oi i
     exact qd ⟨aa, rfl, ab, ac⟩
    refine kg a (d6 rfl) (kg a (d6 rfl) ?_)
    obtain ⟨aB, ad, ae⟩ := ob i
    refine kg a (G8 underlying9 rfl rfl ad) (kg a (a5U (b := (0 : UInt8)) rfl rfl) (kv (j9 rfl a rfl) (z7 ?_)))
    rintro aC ⟨af, ag, ah⟩
    cases oi ae
    exact qd ⟨af, rfl, ag, ah⟩
   rintro _ aD ⟨x, rfl, y, ai⟩
   refine j6 (B5 R rfl (fun aj k => ?_) (fun aj k => ?_))
   ·refine sr (lv (M7 rfl) (nq (i9 (d8 (c9 (c9 ?_))))))
    cases oi k
    cases m _ rfl
    refine d8 (c9 ?_)
    cases oi l
    refine c9 ?_
    cases oi c
    exact ey results85 ⟨x, rfl, y⟩
   refine i6 (o0 (j6 (i7 (mv rfl (lv (s6 rfl rfl) (av rfl (d7 ?_)))))))
   cases oi k
   exact qd ⟨_, rfl, x, rfl, y, (s.trans ai), (l9 _)⟩
  refine q7 (d4 (d4 ?_))
  cases oi f
  cases m _ rfl
  refine j5 ?_
  cases oi l
  exact qd ⟨_, o, rfl, rfl, q, s⟩
 rintro _ w8 ⟨s5, K6, rfl, rfl, A, aH⟩
 have c := C8 c
 refine qr (mv rfl (lv (F1 underlying9 rfl) ?_))
 obtain ⟨aI, ak, al⟩ := ob c
 refine lk a4B (F0 F A.enter0 (a3o B) (by decide : d9 1) (by decide : d9 12) ak) ?_
 rintro aJ aK ⟨am, rfl, an⟩
 have ao := (A.c0 an).t0
 refine av rfl (nq (i9 ?_))
 cases oi al
 exact ey results85 ⟨am, rfl, ao⟩

theorem a6s {q0 : q9} {r : Bool} (hS : SH w K [] w K []) (G : b7 B8 K A a b q0.Stops) (ae : b7 I4 K B c d q0.Syns) (hm : a1A F q0 = some r) :
  Calls prog 55 #[.agg #[V3 A a b, V3 B c d]] w (R_b w K r) := by
 rw [a1A] at hm
 refine ci func55 rfl ntmps55 (sr (bx rfl hS fun f dV aU => ?_))
 have aV : SH _ _ _ _ _ [q8 f [V3 A a b, V3 B c d] 26] := aU
 refine lv (M7 rfl) (P6 (lv (L3 rfl) (nq ?_)))
 obtain ⟨aW, aX, W⟩ := ob hm
 refine j4 (IE aW w K [] K [(1, pt f)] [q8 f [V3 A a b, V3 B c d] 26]) ?_ ?_
 ·refine i5 ?_
  obtain ⟨dW, aY, aC⟩ := ob aX
  refine qw (fun (X : Int) => IW w K [] K [(1, pt f), (3, V6 X)] [q8 f [V3 A a b, V3 B c d] 26] (d9 X)) aY ⟨K, rfl, aV, kr, I0⟩ ?_
  rintro X _ dX dY aZ aD ⟨aE, rfl, af, H, dZ⟩
  refine k8 (sr (mv rfl (fl a1w rfl O5 m0 af rfl (lv (k9 underlying23 rfl (G.mono H)) (lv (n8 rfl rfl) (nq (B5 aZ rfl (fun ba ag => ?_) (fun ba ag => ?_))))))))
  ·refine i6 (qs (i5 (k8 ?_)))
   obtain ⟨bb, bc, bd⟩ := ob ag
   refine j4 (IV w K [] aE [(1, pt f), (3, V6 X), (38, .bool bb)] [q8 f [V3 A a b, V3 B c d] 26]) ?_ ?_
   ·refine C2 mixed (by kernel_rfl) af (kv (b8 a1w rfl) (kh (u2 O5 rfl m0 rfl) (km rfl ?_)))
    obtain ⟨be, bf, bg⟩ := ob bc
    refine ki underlying23 D9 (G.mono H) bf fun bh bi ea bj bk => ?_
    obtain ⟨rfl, bl⟩ := bj
    have bm : D0 _ bh bi [sv be] := bk
    refine kh (z8 D9 rfl (bm 0 _ rfl)) ?_
    obtain ⟨eb, bn, bo⟩ := ob bg
    refine kc a6e (fun _ _ bp ec => (D6 F) bp.enter0 bl bn) (kv (y4 rfl) (km rfl (bt bo (fun l ah => ?_) (fun l ah => ?_))))
    ·refine kn l (kn l (kn l ?_))
     iterate 12 refine ku ?_
     refine kn l (kv (K5 rfl l rfl) (z7 ?_))
     rintro ed ⟨bq, br, bs⟩
     cases oi ah
     exact qd ⟨bq, rfl, br, bs⟩
    refine kg l (d6 rfl) (kg l (E5 rfl rfl) (kg l (d6 rfl) (bt ah (fun i ai => ?_) (fun i ai => ?_))))
    ·refine kg i (b8 a1w rfl) (kgh i (u2 O5 rfl m0 rfl) (kg i (d6 rfl) ?_))
     obtain ⟨bu, bv, bz⟩ := ob ai
     refine B4 (t := B8) (wg rfl rfl i) rfl underlying23 D9 rfl rfl (G.mono H) bv fun bA bB ee bC bD => ?_
     obtain ⟨rfl, ef⟩ := bC
     have bE : D0 _ bA bB [sv bu] := bD
     refine kgh i (z8 D9 rfl (bE 0 _ rfl)) (kg i (b8 a1w rfl) (kgh i (u2 O5 rfl m0 rfl) (kg i (d6 rfl) (kg i (F2 rfl rfl) ?_))))
     obtain ⟨bF, bG, bH⟩ := ob bz
     refine B4 (t := B8) (wg rfl rfl i) rfl underlying23 D9 rfl rfl (G.mono H) bG fun bI bJ eg bK bL => ?_
     obtain ⟨rfl, eh⟩ := bK
     have bM : D0 _ bI bJ [sv bF] := bL
     refine kgh i (z8 D9 rfl (bM 0 _ rfl)) (kg i (b08 rfl rfl) (kg l (j3 rfl i rfl) (kv (j9 rfl l rfl) (z7 ?_))))
     rintro ei ⟨bN, bO, bP⟩
     cases oi bH
     exact qd ⟨bN, rfl, bO, bP⟩
    iterate 12 refine kn i ?_
    refine kg l (F7 rfl i rfl) (kv (j9 rfl l rfl) (z7 ?_))
    rintro ej ⟨bQ, bR, bS⟩
    cases oi ai
    exact qd ⟨bQ, rfl, bR, bS⟩
   rintro _ ek ⟨aF, rfl, aG, bT⟩
   refine j6 (B5 bd rfl (fun bU aj => ?_) (fun bU aj => ?_))
   ·refine sr (lv (M7 rfl) (nq (i9 (d8 (c9 (c9 ?_))))))
    cases oi aj
    cases aD _ rfl
    refine d8 (c9 ?_)
    cases oi aC
    refine c9 ?_
    cases oi W
    exact ey results55 ⟨aF, rfl, aG.s⟩
   refine i6 (o0 (j6 (i7 (mv rfl (lv (s6 rfl rfl) (av rfl (d7 ?_)))))))
   cases oi aj
   exact qd ⟨_, rfl, aF, rfl, aG, (H.trans bT), (l9 _)⟩
  refine q7 (d4 (d4 ?_))
  cases oi ag
  cases aD _ rfl
  refine j5 ?_
  cases oi aC
  exact qd ⟨_, aE, rfl, rfl, af, H⟩
 rintro _ el ⟨em, ak, rfl, rfl, bV, I⟩
 have W := C8 W
 refine qs (sr (lv (L3 rfl) (nq ?_)))
 obtain ⟨bW, bX, J⟩ := ob W
 refine j4 (IE bW w K [] ak [(1, pt f)] [q8 f [V3 A a b, V3 B c d] 26]) ?_ ?_
 ·refine i5 ?_
  obtain ⟨en, bY, am⟩ := ob bX
  refine qw (fun (y : Int) => IW w K [] ak [(1, pt f), (4, V6 y)] [q8 f [V3 A a b, V3 B c d] 26] (d9 y)) bY ⟨ak, rfl, bV, kr, I0⟩ ?_
  rintro y _ eo ep bZ an ⟨Y, rfl, O, R, eq⟩
  refine k8 (sr (mv rfl (fl a1x rfl a5V m0 O rfl (lv (k9 underlying24 rfl (ae.mono (I.trans R))) (lv (n8 rfl rfl) (nq (B5 bZ rfl (fun ca ao => ?_) (fun ca ao => ?_))))))))
  ·refine i6 (qs (i5 (sr (fl a1x rfl a5V m0 O rfl (mv rfl ?_)))))
   obtain ⟨S, cb, cc⟩ := ob ao
   refine li underlying24 a3Z (ae.mono (I.trans R)) cb fun cd ce es cf cg => ?_
   obtain ⟨T, U, V, rfl, C, ap⟩ := cf
   have ch : D0 _ cd ce [V3 T U V, sv S.To] := cg
   refine lv (D4 a3Z rfl O ch rfl) (al a3Z O fun D et cj => ?_)
   have ck : SH _ _ _ _ _ [q8 D [V3 none 0 0, sv []] 96, _] := cj
   refine lw [V3 T U V, sv S.To] a3Z ck fun eu cl => (P6 (lv (L3 rfl) (nq ?_)))
   obtain ⟨cm, cn, aa⟩ := ob cc
   refine j4 (IE cm w K [] Y [(1, pt f), (4, V6 y), (5, pt D)] [q8 f [V3 A a b, V3 B c d] 26, q8 D [V3 T U V, sv S.To] 96]) ?_ ?_
   ·refine i5 ?_
    obtain ⟨ev, cp, aH⟩ := ob cn
    refine qw (fun (ab : Int) => IW w K [] Y [(1, pt f), (4, V6 y), (5, pt D), (6, V6 ab)] [q8 f [V3 A a b, V3 B c d] 26, q8 D [V3 T U V, sv S.To] 96] (d9 ab)) cp ⟨Y, rfl, cl.f1, kr, I0⟩ ?_
    rintro ab _ ew ex cq aI ⟨aJ, rfl, ac, x, eA⟩
    refine k8 (sr (mv rfl (fl a0K rfl O5 m1 ac rfl (lv (k9 underlying23 rfl (C.mono x)) (lv (n8 rfl rfl) (nq (B5 cq rfl (fun cr aq => ?_) (fun cr aq => ?_))))))))
    ·refine i6 (qs (i5 (k8 ?_)))
     obtain ⟨cs, ct, cu⟩ := ob aq
     refine j4 (IV w K [] aJ [(1, pt f), (4, V6 y), (5, pt D), (6, V6 ab), (88, .bool cs)] [q8 f [V3 A a b, V3 B c d] 26, q8 D [V3 T U V, sv S.To] 96]) ?_ ?_
     ·refine C2 mixed (by kernel_rfl) ac (kv (b8 a0K rfl) (kh (u2 O5 rfl m1 rfl) (km rfl ?_)))
      obtain ⟨cv, cw, cx⟩ := ob ct
      refine ki underlying23 D9 (C.mono x) cw fun cy cz eB cA cB => ?_
      obtain ⟨rfl, cC⟩ := cA
      have cD : D0 _ cy cz [sv cv] := cB
      refine kh (z8 D9 rfl (cD 0 _ rfl)) ?_
      obtain ⟨eC, cE, cF⟩ := ob cx
      refine kc a6e (fun _ _ cG eD => (D6 F) cG.enter0 cC cE) (kv (y4 rfl) (km rfl (bt cF (fun k ar => ?_) (fun k ar => ?_))))
      ·iterate 12 refine kn k ?_
       refine kv (K5 rfl k rfl) (km rfl ?_)
       iterate 8 refine qv rfl rfl rfl rfl ?_
       refine kv (K5 rfl rfl rfl) (z7 ?_)
       rintro eE ⟨cH, cI, cJ⟩
       cases oi ar
       exact qd ⟨cH, rfl, cI, cJ⟩
      refine kg k (b8 a0K rfl) (kgh k (u2 O5 rfl m1 rfl) (kg k (d6 rfl) ?_))
      obtain ⟨cK, cL, cM⟩ := ob ar
      refine B4 (t := B8) (wg rfl rfl k) rfl underlying23 D9 rfl rfl (C.mono x) cL fun cN cO eF cP cQ => ?_
      obtain ⟨rfl, aK⟩ := cP
      have cR : D0 _ cN cO [sv cK] := cQ
      refine kgh k (z8 D9 rfl (cR 0 _ rfl)) ?_
      obtain ⟨eG, aL, cS⟩ := ob cM
      refine kdg k b5k (fun _ _ cT eH => (a0L F) cT.enter0 aK aL) ?_
      obtain ⟨_, _, _, ⟨_, _, _, eI⟩, _⟩ := (a0L F) ac.enter0 aK aL []
      refine kg k (b8 a0K rfl) (kgh k (u2 O5 rfl m1 rfl) (kg k (d6 rfl) ?_))
      obtain ⟨cU, cV, cW⟩ := ob cS
      refine B4 (t := B8) (wg rfl rfl k) rfl underlying23 D9 rfl rfl (C.mono x) cV fun cX cY eJ cZ da => ?_
      obtain ⟨rfl, eK⟩ := cZ
      have db : D0 _ cX cY [sv cU] := da
      refine kgh k (z8 D9 rfl (db 0 _ rfl)) (kg k (a0o rfl rfl) (kv (j9 rfl k rfl) (km rfl (bt cW (fun m au => ?_) (fun m au => ?_)))))
      ·iterate 8 refine kn m ?_
       refine kv (K5 rfl m rfl) (z7 ?_)
       rintro eL ⟨dc, dd, de⟩
       cases oi au
       exact qd ⟨dc, rfl, dd, de⟩
      refine kg m (b8 a1w rfl) (kgh m (u2 O5 rfl m0 rfl) (kg m (b8 a0K rfl) (kgh m (u2 O5 rfl m1 rfl) (kg m (d6 rfl) ?_))))
      obtain ⟨df, dg, dh⟩ := ob au
      refine B4 (t := B8) (wg rfl rfl m) rfl underlying23 D9 rfl rfl (C.mono x) dg fun di dj eM dk dl => ?_
      obtain ⟨rfl, dm⟩ := dk
      have dn : D0 _ di dj [sv df] := dl
      refine kgh m (z8 D9 rfl (dn 0 _ rfl)) ?_
      obtain ⟨eN, dp, dq⟩ := ob dh
      refine kcg m b70 (fun _ _ dr ds => (a3A F) dr.enter0 (b7.mono (((I.trans R).trans x).trans ds) G) dm dp) (kv (j9 rfl m rfl) (z7 ?_))
      rintro eO ⟨dt, du, dv⟩
      cases oi dq
      exact qd ⟨dt, rfl, du, dv⟩
     rintro _ eP ⟨aM, rfl, aN, dw⟩
     refine j6 (B5 cu rfl (fun dx aw => ?_) (fun dx aw => ?_))
     ·refine sr (lv (M7 rfl) (nq (i9 (d8 (c9 (c9 ?_))))))
      cases oi aw
      cases aI _ rfl
      refine d8 (c9 ?_)
      cases oi aH
      refine c9 (d8 (c9 (c9 ?_)))
      cases oi aa
      cases an _ rfl
      refine d8 (c9 ?_)
      cases oi am
      refine c9 ?_
      cases oi J
      exact ey results55 ⟨aM, rfl, aN.s⟩
     refine i6 (o0 (j6 (i7 (mv rfl (lv (s6 rfl rfl) (av rfl (d7 ?_)))))))
     cases oi aw
     exact qd ⟨_, rfl, aM, rfl, aN, (x.trans dw), (l9 _)⟩
    refine q7 (d4 (d4 ?_))
    cases oi aq
    cases aI _ rfl
    refine j5 ?_
    cases oi aH
    exact qd ⟨_, aJ, rfl, rfl, ac, x⟩
   rintro _ eQ ⟨eR, dy, rfl, rfl, aO, ax⟩
   have aa := C8 aa
   refine qs ?_
   obtain ⟨dz, dA, dB⟩ := ob aa
   refine j4 (IV w K [] dy [(1, pt f), (4, V6 y), (107, .bool dz)] [q8 f [V3 A a b, V3 B c d] 26]) ?_ ?_
   ·refine C2 mixed (by kernel_rfl) aO (kv (b8 a0K rfl) (kh (u2 O5 rfl m1 rfl) (kv (k9 underlying23 rfl (C.mono ax)) ?_)))
    obtain ⟨eS, dC, dD⟩ := ob dA
    refine kc a4B (fun _ _ dE eT => (F0 F) dE.enter0 (C.mono ax).rn (by decide : d9 1) (by decide : d9 3) dC) (kv (y4 rfl) (km rfl (bt dD (fun o ay => ?_) (fun o ay => ?_))))
    ·refine kn o (kn o (kn o (kn o (kv (K5 rfl o rfl) (km rfl ?_)))))
     iterate 6 refine qv rfl rfl rfl rfl ?_
     refine kv (K5 rfl rfl rfl) (z7 ?_)
     rintro eU ⟨dF, dG, dH⟩
     cases oi ay
     exact qd ⟨dF, rfl, dG.s, dH⟩
    refine kg o (b8 a4F rfl) (kgh o (u2 D9 rfl m1 rfl) ?_)
    obtain ⟨eV, dI, dJ⟩ := ob ay
    refine kcg o a6e (fun _ _ dK eW => (D6 F) dK.enter0 ap dI) (kg o (y4 rfl) (kv (j9 rfl o rfl) (km rfl (bt dJ (fun s az => ?_) (fun s az => ?_)))))
    ·iterate 6 refine kn s ?_
     refine kv (K5 rfl s rfl) (z7 ?_)
     rintro eX ⟨dL, dM, dN⟩
     cases oi az
     exact qd ⟨dL, rfl, dM.s, dN⟩
    refine kg s (b8 a4F rfl) (kgh s (u2 D9 rfl m1 rfl) ?_)
    obtain ⟨eY, aP, dO⟩ := ob az
    refine kdg s b5k (fun _ _ dP eZ => (a0L F) dP.enter0 ap aP) ?_
    obtain ⟨_, _, _, ⟨_, _, _, fb⟩, _⟩ := (a0L F) aO.enter0 ap aP []
    refine kg s (b8 a4F rfl) (kgh s (u2 D9 rfl m1 rfl) (kg s (a0o rfl rfl) (kv (j9 rfl s rfl) (z7 ?_))))
    rintro fc ⟨dQ, dR, dS⟩
    cases oi dO
    exact qd ⟨dQ, rfl, dR.s, dS⟩
   rintro _ fd ⟨aQ, rfl, aR, dT⟩
   refine j6 (B5 dB rfl (fun dU aA => ?_) (fun dU aA => ?_))
   ·refine sr (lv (M7 rfl) (nq (i9 (d8 (c9 (c9 ?_))))))
    cases oi aA
    cases an _ rfl
    refine d8 (c9 ?_)
    cases oi am
    refine c9 ?_
    cases oi J
    exact ey results55 ⟨aQ, rfl, aR.s⟩
   refine i6 (o0 (j6 (i7 (mv rfl (lv (s6 rfl rfl) (av rfl (d7 ?_)))))))
   cases oi aA
   exact qd ⟨_, rfl, aQ, rfl, aR, ((R.trans ax).trans dT), (l9 _)⟩
  refine q7 (d4 (d4 ?_))
  cases oi ao
  cases an _ rfl
  refine j5 ?_
  cases oi am
  exact qd ⟨_, Y, rfl, rfl, O, R⟩
 rintro _ fe ⟨fg, aS, rfl, rfl, ad, aT⟩
 have J := C8 J
 refine qr (fl a1w rfl O5 m0 ad rfl (lv (k9 underlying23 rfl (G.mono (I.trans aT))) (lv (R9 rfl rfl) (mv rfl (bt J (fun q aB => ?_) (fun q aB => ?_))))))
 ·refine lg q (b8 a1x rfl) (lg q (l8 a5V rfl m0 ad rfl) (lg q (k9 underlying24 rfl (ae.mono (I.trans aT))) (lg q (R9 rfl rfl) (lv (j3 rfl q rfl) (av rfl (nq (i9 ?_)))))))
  cases oi aB
  exact ey results55 ⟨aS, rfl, ad.s⟩
 refine lu q (lu q (lu q (lu q (lv (F7 rfl q rfl) (av rfl (nq (i9 ?_)))))))
 cases oi aB
 exact ey results55 ⟨aS, rfl, ad.s⟩

theorem a9e {q0 : k6} {r : Bool} (hS : SH w K [] w K []) (Y : q0.length ≤ maxLen) (hm : a1b F q0 = some r) :
  Calls prog 220 #[sv q0] w (R_b w K r) := by
 rw [a1b] at hm
 refine ci func220 rfl ntmps220 (sr (lv (M7 rfl) (P6 (lv (L3 rfl) (nq ?_)))))
 obtain ⟨A, B, c⟩ := ob hm
 refine j4 (IE A w K [] K [(0, sv q0)] []) ?_ ?_
 ·refine i5 ?_
  obtain ⟨aa, C, o⟩ := ob B
  refine qw (fun (d : Int) => IW w K [] K [(0, sv q0), (3, V6 d)] [] (d9 d)) C ⟨K, rfl, hS, kr, I0⟩ ?_
  rintro d _ ab ac D q ⟨f, rfl, i, s, ad⟩
  refine k8 (sr (mv rfl (mv rfl (lv (F1 underlying9 rfl) (lv (n8 rfl rfl) (nq (B5 D rfl (fun G k => ?_) (fun G k => ?_))))))))
  ·refine i6 (qs (i5 (k8 ?_)))
   obtain ⟨H, I, J⟩ := ob k
   refine j4 (IV w K [] f [(0, sv q0), (3, V6 d), (19, .bool H)] []) ?_ ?_
   ·refine i7 (mv rfl (mv rfl ?_))
    obtain ⟨ae, O, R⟩ := ob I
    refine lv (G8 underlying9 rfl rfl O) (lv (b7I (b := (32 : UInt8)) rfl rfl) (mv rfl (bt R (fun a l => ?_) (fun a l => ?_))))
    ·refine lu a (lu a (lu a (lu a (lv (K5 rfl a rfl) (d7 ?_)))))
     cases oi l
     exact qd ⟨f, rfl, i, kr⟩
    refine lg a (d6 rfl) (lg a (d6 rfl) ?_)
    obtain ⟨af, S, T⟩ := ob l
    refine lg a (G8 underlying9 rfl rfl S) (lg a (b7H (b := (126 : UInt8)) rfl rfl) (lv (j9 rfl a rfl) (d7 ?_)))
    cases oi T
    exact qd ⟨f, rfl, i, kr⟩
   rintro _ ag ⟨x, rfl, y, U⟩
   refine j6 (B5 J rfl (fun V m => ?_) (fun V m => ?_))
   ·refine sr (lv (M7 rfl) (nq (i9 (d8 (c9 (c9 ?_))))))
    cases oi m
    cases q _ rfl
    refine d8 (c9 ?_)
    cases oi o
    refine c9 ?_
    cases oi c
    exact ey results220 ⟨x, rfl, y⟩
   refine i6 (o0 (j6 (i7 (mv rfl (lv (s6 rfl rfl) (av rfl (d7 ?_)))))))
   cases oi m
   exact qd ⟨_, rfl, x, rfl, y, (s.trans U), (l9 _)⟩
  refine q7 (d4 (d4 ?_))
  cases oi k
  cases q _ rfl
  refine j5 ?_
  cases oi o
  exact qd ⟨_, f, rfl, rfl, i, s⟩
 rintro _ w8 ⟨s5, W, rfl, rfl, X, aj⟩
 have c := C8 c
 refine qr (mv rfl (lv (F1 underlying9 rfl) (lv (R9 rfl rfl) (av rfl (nq (i9 ?_))))))
 cases oi c
 exact ey results220 ⟨W, rfl, X⟩

theorem b03 {q0 : s7} {r : Bool} (hS : SH w K [] w K []) (aJ : d9 q0.Id) (G : b7 F3 K A a b q0.Fields) (D : b7 G5 K B c d q0.Nums) (hm : a2v F q0 = some r) :
  Calls prog 172 #[.agg #[V6 q0.Id, V3 A a b, V3 B c d]] w (R_b w K r) := by
 rw [a2v] at hm
 refine ci func172 rfl ntmps172 (sr (bx rfl hS fun k da aK => ?_))
 have aL : SH _ _ _ _ _ [q8 k [V6 q0.Id, V3 A a b, V3 B c d] 54] := aK
 refine lv (M7 rfl) (P6 (lv (L3 rfl) (nq ?_)))
 obtain ⟨aM, aN, J⟩ := ob hm
 refine j4 (IE aM w K [] K [(1, pt k)] [q8 k [V6 q0.Id, V3 A a b, V3 B c d] 54]) ?_ ?_
 ·refine i5 ?_
  obtain ⟨db, aO, ap⟩ := ob aN
  refine qw (fun (O : Int) => IW w K [] K [(1, pt k), (3, V6 O)] [q8 k [V6 q0.Id, V3 A a b, V3 B c d] 54] (d9 O)) aO ⟨K, rfl, aL, kr, I0⟩ ?_
  rintro O _ dc dd aP aq ⟨ar, rfl, H, I, de⟩
  refine k8 (sr (mv rfl (fl W0 rfl a3Y m0 H rfl (lv (k9 underlying51 rfl (G.mono I)) (lv (n8 rfl rfl) (nq (B5 aP rfl (fun aQ W => ?_) (fun aQ W => ?_))))))))
  ·refine i6 (qs (i5 (sr (fl W0 rfl a3Y m0 H rfl (mv rfl ?_)))))
   obtain ⟨R, aR, aS⟩ := ob W
   refine li underlying51 M9 (G.mono I) aR fun aT aU df aV aW => ?_
   obtain ⟨rfl, aX, aY⟩ := aV
   have aZ : D0 _ aT aU [sv R.Name, sv R.Text] := aW
   refine lv (D4 M9 rfl H aZ rfl) (al M9 H fun ba dg bb => ?_)
   have bc : SH _ _ _ _ _ [q8 ba [sv [], sv []] 158, _] := bb
   refine lw [sv R.Name, sv R.Text] M9 bc fun dh bd => (ns ?_)
   obtain ⟨be, bf, bg⟩ := ob aS
   refine j4 (IV w K [] ar [(1, pt k), (3, V6 O), (43, .bool be)] [q8 k [V6 q0.Id, V3 A a b, V3 B c d] 54]) ?_ ?_
   ·refine C2 mixed (by kernel_rfl) bd (kv (b8 a2l rfl) (kh (u2 D9 rfl m0 rfl) ?_))
    obtain ⟨di, bh, bi⟩ := ob bf
    refine kc a6e (fun _ _ bj dj => (D6 F) bj.enter0 aX bh) (kv (y4 rfl) (km rfl (bt bi (fun q X => ?_) (fun q X => ?_))))
    ·refine kn q (kn q (kn q (kn q (kv (K5 rfl q rfl) (km rfl (qv rfl rfl rfl rfl (qv rfl rfl rfl rfl (qv rfl rfl rfl rfl ?_))))))))
     iterate 10 refine ku ?_
     refine qv rfl rfl rfl rfl (kv (K5 rfl rfl rfl) (z7 ?_))
     rintro dk ⟨bk, bl, bm⟩
     cases oi X
     exact qd ⟨bk, rfl, bl.s, bm⟩
    refine kg q (b8 a6f rfl) (kgh q (u2 D9 rfl m0 rfl) ?_)
    obtain ⟨dl, bn, bo⟩ := ob X
    refine kcg q b9n (fun _ _ bp dm => (a9e F) bp.enter0 aY bn) (kg q (y4 rfl) (kv (j9 rfl q rfl) (km rfl (bt bo (fun l Y => ?_) (fun l Y => ?_)))))
    ·refine kn l (kn l (kn l ?_))
     iterate 10 refine ku ?_
     refine kn l (kv (K5 rfl l rfl) (z7 ?_))
     rintro dn ⟨bq, br, bs⟩
     cases oi Y
     exact qd ⟨bq, rfl, br.s, bs⟩
    refine kg l (d6 rfl) (kg l (E5 rfl rfl) (kg l (d6 rfl) (bt Y (fun i aa => ?_) (fun i aa => ?_))))
    ·refine kg i (b8 a2l rfl) (kgh i (u2 D9 rfl m0 rfl) (kg i (b8 W0 rfl) (kgh i (u2 a3Y rfl m1 rfl) (kg i (d6 rfl) (kg i (F2 rfl rfl) ?_)))))
     obtain ⟨au, bu, bv⟩ := ob aa
     refine B4 (t := F3) (wg rfl rfl i) rfl underlying51 M9 rfl rfl (G.mono I) bu fun bz bA dp bB bC => ?_
     obtain ⟨rfl, dq, dr⟩ := bB
     have bD : D0 _ bz bA [sv au.Name, sv au.Text] := bC
     refine kg i (b8 a2l rfl) (kgh i (z8 D9 rfl (bD 0 _ rfl)) (kg i (b08 rfl rfl) (kg l (j3 rfl i rfl) (kv (j9 rfl l rfl) (z7 ?_)))))
     rintro ds ⟨bE, bF, bG⟩
     cases oi bv
     exact qd ⟨bE, rfl, bF.s, bG⟩
    iterate 10 refine kn i ?_
    refine kg l (F7 rfl i rfl) (kv (j9 rfl l rfl) (z7 ?_))
    rintro dt ⟨bH, bI, bJ⟩
    cases oi aa
    exact qd ⟨bH, rfl, bI.s, bJ⟩
   rintro _ du ⟨aw, rfl, ax, bK⟩
   refine j6 (B5 bg rfl (fun bL ab => ?_) (fun bL ab => ?_))
   ·refine sr (lv (M7 rfl) (nq (i9 (d8 (c9 (c9 ?_))))))
    cases oi ab
    cases aq _ rfl
    refine d8 (c9 ?_)
    cases oi ap
    refine c9 ?_
    cases oi J
    exact ey results172 ⟨aw, rfl, ax.s⟩
   refine i6 (o0 (j6 (i7 (mv rfl (lv (s6 rfl rfl) (av rfl (d7 ?_)))))))
   cases oi ab
   exact qd ⟨_, rfl, aw, rfl, ax, (I.trans bK), (l9 _)⟩
  refine q7 (d4 (d4 ?_))
  cases oi W
  cases aq _ rfl
  refine j5 ?_
  cases oi ap
  exact qd ⟨_, ar, rfl, rfl, H, I⟩
 rintro _ dv ⟨dw, ac, rfl, rfl, bM, y⟩
 have J := C8 J
 refine qs (sr (lv (L3 rfl) (nq ?_)))
 obtain ⟨bN, bO, S⟩ := ob J
 refine j4 (IE bN w K [] ac [(1, pt k)] [q8 k [V6 q0.Id, V3 A a b, V3 B c d] 54]) ?_ ?_
 ·refine i5 ?_
  obtain ⟨dx, bP, ay⟩ := ob bO
  refine qw (fun (T : Int) => IW w K [] ac [(1, pt k), (5, V6 T)] [q8 k [V6 q0.Id, V3 A a b, V3 B c d] 54] (d9 T)) bP ⟨ac, rfl, bM, kr, I0⟩ ?_
  rintro T _ dy dz bQ az ⟨aA, rfl, ad, C, dA⟩
  refine k8 (sr (mv rfl (fl X8 rfl a4e m0 ad rfl (lv (k9 underlying52 rfl (D.mono (y.trans C))) (lv (n8 rfl rfl) (nq (B5 bQ rfl (fun bR ae => ?_) (fun bR ae => ?_))))))))
  ·refine i6 (qs (i5 (k8 ?_)))
   obtain ⟨bS, bT, bU⟩ := ob ae
   refine j4 (IV w K [] aA [(1, pt k), (5, V6 T), (88, .bool bS)] [q8 k [V6 q0.Id, V3 A a b, V3 B c d] 54]) ?_ ?_
   ·refine C2 mixed (by kernel_rfl) ad (kv (b8 X8 rfl) (kh (u2 a4e rfl m0 rfl) (km rfl ?_)))
    obtain ⟨aB, bV, bW⟩ := ob bT
    refine ki underlying52 P9 (D.mono (y.trans C)) bV fun bX bY dB bZ ca => ?_
    obtain ⟨rfl, cb, dC⟩ := bZ
    have cc : D0 _ bX bY [sv aB.Name, V6 aB.Num] := ca
    refine kv (b8 a3l rfl) (kh (z8 D9 rfl (cc 0 _ rfl)) ?_)
    obtain ⟨dD, cd, ce⟩ := ob bW
    refine kc a6e (fun _ _ cf dE => (D6 F) cf.enter0 cb cd) (kv (y4 rfl) (km rfl (bt ce (fun o af => ?_) (fun o af => ?_))))
    ·iterate 8 refine kn o ?_
     refine kv (K5 rfl o rfl) (km rfl (qv rfl rfl rfl rfl (qv rfl rfl rfl rfl (qv rfl rfl rfl rfl ?_))))
     iterate 14 refine ku ?_
     refine qv rfl rfl rfl rfl (kv (K5 rfl rfl rfl) (z7 ?_))
     rintro dF ⟨cg, ch, cj⟩
     cases oi af
     exact qd ⟨cg, rfl, ch, cj⟩
    refine kg o (b8 X8 rfl) (kgh o (u2 a4e rfl m0 rfl) (kg o (d6 rfl) ?_))
    obtain ⟨aC, ck, cl⟩ := ob af
    refine B4 (t := G5) (wg rfl rfl o) rfl underlying52 P9 rfl rfl (D.mono (y.trans C)) ck fun cm cn dG cp cq => ?_
    obtain ⟨rfl, dH, cr⟩ := cp
    have cs : D0 _ cm cn [sv aC.Name, V6 aC.Num] := cq
    refine kg o (b8 a8y rfl) (kgh o (z8 D8 rfl (cs 1 _ rfl)) ?_)
    obtain ⟨dI, ct, cu⟩ := ob cl
    refine kcg o a4B (fun _ _ cv dJ => (F0 F) cv.enter0 cr I0 (by decide : d9 999999999) ct) (kg o (y4 rfl) (kv (j9 rfl o rfl) (km rfl (bt cu (fun m ag => ?_) (fun m ag => ?_)))))
    ·refine kn m (kn m (kn m ?_))
     iterate 14 refine ku ?_
     refine kn m (kv (K5 rfl m rfl) (z7 ?_))
     rintro dK ⟨cw, cx, cy⟩
     cases oi ag
     exact qd ⟨cw, rfl, cx, cy⟩
    refine kg m (d6 rfl) (kg m (E5 rfl rfl) (kg m (d6 rfl) (bt ag (fun f ah => ?_) (fun f ah => ?_))))
    ·refine kg f (b8 X8 rfl) (kgh f (u2 a4e rfl m0 rfl) (kg f (d6 rfl) ?_))
     obtain ⟨aD, cz, cA⟩ := ob ah
     refine B4 (t := G5) (wg rfl rfl f) rfl underlying52 P9 rfl rfl (D.mono (y.trans C)) cz fun cB cC dL cD cE => ?_
     obtain ⟨rfl, dM, dN⟩ := cD
     have cF : D0 _ cB cC [sv aD.Name, V6 aD.Num] := cE
     refine kg f (b8 a3l rfl) (kgh f (z8 D9 rfl (cF 0 _ rfl)) (kg f (b8 X8 rfl) (kgh f (u2 a4e rfl m0 rfl) (kg f (d6 rfl) (kg f (F2 rfl rfl) ?_)))))
     obtain ⟨aE, cG, cH⟩ := ob cA
     refine B4 (t := G5) (wg rfl rfl f) rfl underlying52 P9 rfl rfl (D.mono (y.trans C)) cG fun cI cJ dO cK cL => ?_
     obtain ⟨rfl, dP, dQ⟩ := cK
     have cM : D0 _ cI cJ [sv aE.Name, V6 aE.Num] := cL
     refine kg f (b8 a3l rfl) (kgh f (z8 D9 rfl (cM 0 _ rfl)) (kg f (b08 rfl rfl) (kg m (j3 rfl f rfl) (kv (j9 rfl m rfl) (z7 ?_)))))
     rintro dR ⟨cN, cO, cP⟩
     cases oi cH
     exact qd ⟨cN, rfl, cO, cP⟩
    iterate 14 refine kn f ?_
    refine kg m (F7 rfl f rfl) (kv (j9 rfl m rfl) (z7 ?_))
    rintro dS ⟨cQ, cR, cS⟩
    cases oi ah
    exact qd ⟨cQ, rfl, cR, cS⟩
   rintro _ dT ⟨aF, rfl, aG, cT⟩
   refine j6 (B5 bU rfl (fun cU ai => ?_) (fun cU ai => ?_))
   ·refine sr (lv (M7 rfl) (nq (i9 (d8 (c9 (c9 ?_))))))
    cases oi ai
    cases az _ rfl
    refine d8 (c9 ?_)
    cases oi ay
    refine c9 ?_
    cases oi S
    exact ey results172 ⟨aF, rfl, aG.s⟩
   refine i6 (o0 (j6 (i7 (mv rfl (lv (s6 rfl rfl) (av rfl (d7 ?_)))))))
   cases oi ai
   exact qd ⟨_, rfl, aF, rfl, aG, (C.trans cT), (l9 _)⟩
  refine q7 (d4 (d4 ?_))
  cases oi ae
  cases az _ rfl
  refine j5 ?_
  cases oi ay
  exact qd ⟨_, aA, rfl, rfl, ad, C⟩
 rintro _ dU ⟨dV, dW, rfl, rfl, aj, ak⟩
 have S := C8 S
 refine qr (fl X7 rfl D8 m0 aj rfl ?_)
 obtain ⟨dX, cV, cW⟩ := ob S
 refine lk a4B (F0 F aj.enter0 aJ (by decide : d9 1) (by decide : d9 9999) cV) ?_
 rintro dY dZ ⟨cX, rfl, U⟩
 have V := (aj.c0 U).t1
 refine mv rfl (bt cW (fun s am => ?_) (fun s am => ?_))
 ·refine lg s (b8 W0 rfl) (lg s (l8 a3Y rfl m0 V rfl) (lg s (k9 underlying51 rfl (G.mono ((y.trans ak).trans U.le))) ?_))
  obtain ⟨ea, cY, cZ⟩ := ob am
  refine x9 (wg rfl rfl s) rfl (x8 (vs := [V6 (q0.Fields.length : Int), V6 0, V6 3]) a4B rfl) (F0 F V.enter0 (a3o (b7.max (G.mono ((y.trans ak).trans U.le)))) I0 (by decide : d9 3) cY) ?_
  rintro eb ec ⟨aH, rfl, aI⟩
  refine ⟨_, rfl, ?_⟩
  have an := (V.c0 aI).t1
  refine lv (j3 rfl s rfl) (mv rfl (bt cZ (fun x ao => ?_) (fun x ao => ?_)))
  ·refine lg x (b8 X8 rfl) (lg x (l8 a4e rfl m0 an rfl) (lg x (k9 underlying52 rfl (b7.mono (((y.trans ak).trans U.le).trans aI.le) D)) (lg x (R9 rfl rfl) (lv (j3 rfl x rfl) (av rfl (nq (i9 ?_)))))))
   cases oi ao
   exact ey results172 ⟨aH, rfl, an.s⟩
  refine lu x (lu x (lu x (lu x (lv (F7 rfl x rfl) (av rfl (nq (i9 ?_)))))))
  cases oi ao
  exact ey results172 ⟨aH, rfl, an.s⟩
 refine lu s (lu s (lu s (lu s (lv (F7 rfl s rfl) (mv rfl (lu rfl (lu rfl (lu rfl (lu rfl ?_)))))))))
 refine lv (F7 rfl rfl rfl) (av rfl (nq (i9 ?_)))
 cases oi am
 exact ey results172 ⟨cX, rfl, V.s⟩

theorem a9j {q0 : List s7} {r : Bool} (hS : SH w K [] w K []) (i : b7 E1 K A a b q0) (hm : a1g F q0 = some r) :
  Calls prog 127 #[V3 A a b] w (R_b w K r) := by
 rw [a1g] at hm
 refine ci func127 rfl ntmps127 (sr (lv (M7 rfl) (P6 (lv (L3 rfl) (nq ?_)))))
 obtain ⟨I, J, k⟩ := ob hm
 refine j4 (IE I w K [] K [(0, V3 A a b)] []) ?_ ?_
 ·refine i5 ?_
  obtain ⟨bk, O, x⟩ := ob J
  refine qw (fun (l : Int) => IW w K [] K [(0, V3 A a b), (3, V6 l)] [] (d9 l)) O ⟨K, rfl, hS, kr, I0⟩ ?_
  rintro l _ bl bm R y ⟨B, rfl, C, f, bn⟩
  refine k8 (sr (mv rfl (mv rfl (lv (k9 underlying35 rfl (i.mono f)) (lv (n8 rfl rfl) (nq (B5 R rfl (fun S m => ?_) (fun S m => ?_))))))))
  ·refine i6 (qs (i5 (k8 ?_)))
   obtain ⟨T, U, V⟩ := ob m
   refine j4 (IV w K [] B [(0, V3 A a b), (3, V6 l), (33, .bool T)] []) ?_ ?_
   ·refine C2 mixed (by kernel_rfl) C (km rfl (km rfl ?_))
    obtain ⟨W, X, Y⟩ := ob U
    refine ki underlying35 C0 (i.mono f) X fun aa ab bo ac ad => ?_
    obtain ⟨ae, af, ag, ah, ai, aj, rfl, ak, al, am⟩ := ac
    have an : D0 _ aa ab [V6 W.Id, V3 ae af ag, V3 ah ai aj] := ad
    refine kh (a3e C0 rfl an rfl) ?_
    obtain ⟨bp, ao, ap⟩ := ob Y
    refine kc b88 (fun _ _ aq D => (b03 F) aq.enter0 ak (al.mono D) (am.mono D) ao) (kv (y4 rfl) (km rfl (bt ap (fun d o => ?_) (fun d o => ?_))))
    ·refine kn d (kn d (kn d ?_))
     iterate 12 refine ku ?_
     refine kn d (kv (K5 rfl d rfl) (z7 ?_))
     rintro bq ⟨ar, au, aw⟩
     cases oi o
     exact qd ⟨ar, rfl, au, aw⟩
    refine kg d (d6 rfl) (kg d (E5 rfl rfl) (kg d (d6 rfl) (bt o (fun c q => ?_) (fun c q => ?_))))
    ·refine kg c (d6 rfl) (kg c (d6 rfl) ?_)
     obtain ⟨ax, ay, az⟩ := ob q
     refine B4 (t := E1) (wg rfl rfl c) rfl underlying35 C0 rfl rfl (i.mono f) ay fun aA aB br aC aD => ?_
     obtain ⟨aE, aF, aG, aH, aI, aJ, rfl, bs, bu, bv⟩ := aC
     have aK : D0 _ aA aB [V6 ax.Id, V3 aE aF aG, V3 aH aI aJ] := aD
     refine kg c (b8 X7 rfl) (kgh c (z8 D8 rfl (aK 0 _ rfl)) (kg c (d6 rfl) (kg c (d6 rfl) (kg c (F2 rfl rfl) ?_))))
     obtain ⟨aL, aM, aN⟩ := ob az
     refine B4 (t := E1) (wg rfl rfl c) rfl underlying35 C0 rfl rfl (i.mono f) aM fun aO aP bx aQ aR => ?_
     obtain ⟨aS, aT, aU, aV, aW, aX, rfl, bz, bA, bB⟩ := aQ
     have aY : D0 _ aO aP [V6 aL.Id, V3 aS aT aU, V3 aV aW aX] := aR
     refine kg c (b8 X7 rfl) (kgh c (z8 D8 rfl (aY 0 _ rfl)) (kg c (R9 rfl rfl) (kg d (j3 rfl c rfl) (kv (j9 rfl d rfl) (z7 ?_)))))
     rintro bC ⟨aZ, ba, bb⟩
     cases oi aN
     exact qd ⟨aZ, rfl, ba, bb⟩
    iterate 12 refine kn c ?_
    refine kg d (F7 rfl c rfl) (kv (j9 rfl d rfl) (z7 ?_))
    rintro bD ⟨bc, bd, be⟩
    cases oi q
    exact qd ⟨bc, rfl, bd, be⟩
   rintro _ w32 ⟨G, rfl, H, bf⟩
   refine j6 (B5 V rfl (fun bg s => ?_) (fun bg s => ?_))
   ·refine sr (lv (M7 rfl) (nq (i9 (d8 (c9 (c9 ?_))))))
    cases oi s
    cases y _ rfl
    refine d8 (c9 ?_)
    cases oi x
    refine c9 ?_
    cases oi k
    exact ey results127 ⟨G, rfl, H⟩
   refine i6 (o0 (j6 (i7 (mv rfl (lv (s6 rfl rfl) (av rfl (d7 ?_)))))))
   cases oi s
   exact qd ⟨_, rfl, G, rfl, H, (f.trans bf), (l9 _)⟩
  refine q7 (d4 (d4 ?_))
  cases oi m
  cases y _ rfl
  refine j5 ?_
  cases oi x
  exact qd ⟨_, B, rfl, rfl, C, f⟩
 rintro _ bE ⟨s8, K9, rfl, rfl, bi, bj⟩
 have k := C8 k
 refine qr (mv rfl (lv (k9 underlying35 rfl (i.mono bj)) (lv (R9 rfl rfl) (av rfl (nq (i9 ?_))))))
 cases oi k
 exact ey results127 ⟨K9, rfl, bi⟩

theorem a74 {q0 : z2} {q1 : Int} {r : s7 × Bool} (hS : SH w K Z w K [q8 g1 [V3 A a b, V3 B c d] 46]) (W : b7 E1 K A a b q0.Docs) (aO : b7 z6 K B c d q0.Entries) (aP : d9 q1) (hm : R1 F q0 q1 = some r) :
  Calls prog 76 #[.pointer (some ⟨g1, 0, none⟩), V6 q1] w fun e w' => ∃ a_2 n_3 c_4 a_6 n_7 c_8 K', e = .returned (.tuple #[.agg #[V6 r.1.Id, V3 a_2 n_3 c_4, V3 a_6 n_7 c_8], .bool r.2]) ∧ SH w K Z w' K' [q8 g1 [V3 A a b, V3 B c d] 46] ∧ d9 r.1.Id ∧ b7 F3 K' a_2 n_3 c_4 r.1.Fields ∧ b7 G5 K' a_6 n_7 c_8 r.1.Nums := by
 rw [R1] at hm
 refine ci func76 rfl ntmps76 (sr (al C0 hS fun O aQ ao => ?_))
 have ai : SH _ _ _ _ _ [q8 O [V6 0, V3 none 0 0, V3 none 0 0] 54, _] := ao
 refine lv (M7 rfl) (P6 (mv rfl (lv (v8 rfl) (fl a03 rfl a5w m1 ai rfl (lv (k9 underlying35 rfl W) (lv (r_m rfl) (nq ?_)))))))
 obtain ⟨ap, aq, S⟩ := ob hm
 refine j4 (fun E' w' => ∃ i X Y aa ab ac ad k, ap = .inl i ∧ E' = [(0, pt g1), (4, pt O)] ∧ SH w K Z w' k [q8 g1 [V3 A a b, V3 B c d] 46, q8 O [V6 i.Id, V3 X Y aa, V3 ab ac ad] 54] ∧ H6 K k ∧ d9 i.Id ∧ b7 F3 k X Y aa i.Fields ∧ b7 G5 k ab ac ad i.Nums) ?_ ?_
 ·refine i5 ?_
  obtain ⟨aR, ar, aj⟩ := ob aq
  refine qf (fun (ak : Nat) (l : s7) E' w' => ∃ m o q s x y f, E' = [(0, pt g1), (1, V6 q1), (4, pt O), (11, V3 A a b), (12, V6 (q0.Docs.length : Int)), (13, V6 ((ak : Nat) : Int))] ∧ SH w K Z w' f [q8 g1 [V3 A a b, V3 B c d] 46, q8 O [V6 l.Id, V3 m o q, V3 s x y] 54] ∧ H6 K f ∧ d9 l.Id ∧ b7 F3 f m o q l.Fields ∧ b7 G5 f s x y l.Nums) ar ⟨none, 0, 0, none, 0, 0, K, rfl, ai.f1, kr, I0, (b7.nil _ _), (b7.nil _ _)⟩ ?_ ?_
  ·rintro ak l _ au aS hi52 aw ax ⟨m, o, q, s, x, y, f, rfl, T, U, ae, af, ag⟩
   refine sr (lv (n8 rfl rfl) (ns (A3 rfl (c7 (by omega)) (i6 (j6 (k8 (i5 (sr ?_))))))))
   obtain ⟨R, ay, az⟩ := ob aw
   refine li underlying35 C0 (W.mono U) ay fun aA aB aT aC aD => ?_
   obtain ⟨C, D, G, H, I, J, rfl, aE, aF, aG⟩ := aC
   have aH : D0 _ aA aB [V6 R.Id, V3 C D G, V3 H I J] := aD
   refine lv (D4 C0 rfl T aH rfl) (al C0 T fun aI aU aJ => ?_)
   have aK : SH _ _ _ _ _ [q8 aI [V6 0, V3 none 0 0, V3 none 0 0] 54, _, _] := aJ
   refine lw [V6 R.Id, V3 C D G, V3 H I J] C0 aK fun aV V => (nr (fl X7 rfl D8 m0 V rfl (mv rfl (lv (u3 rfl rfl) (nq (B5 az rfl (fun aL ah => ?_) (fun aL ah => ?_)))))))
   ·refine sr (lv (l3 (ds := [V6 R.Id, V3 C D G, V3 H I J]) C0 rfl m0 V rfl rfl) (lw [V6 R.Id, V3 C D G, V3 H I J] C0 V.f2 fun aW am => (lv (r_t rfl) (nq (i9 (d8 (c9 (c9 ?_))))))))
    cases oi ah
    cases ax _ rfl
    refine d8 (c9 ?_)
    cases oi aj
    refine c9 ?_
    cases oi S
    exact R8 (vs := [_, _]) results76 ⟨⟨_, _, rfl, A8 C0 (cs := [V6 R.Id, V3 C D G, V3 H I J]) (fun j c e => by rw [Nat.zero_add, am.mem_obj m0]; exact e) (.inl ⟨rfl, rfl, rfl⟩)⟩, rfl, trivial⟩ ⟨C, D, G, H, I, J, f, rfl, am.s, aE, aF, aG⟩
   refine i6 (o0 (qg (lv (y3 rfl rfl (A0 hi52 (b7.max W))) (mv rfl (d7 ?_)))))
   cases oi ah
   exact qd ⟨_, rfl, m, o, q, s, x, y, f, rfl, V.s, U, ae, af, ag⟩
  rintro l _ au aM ⟨m, o, q, s, x, y, f, rfl, T, U, ae, af, ag⟩
  subst aM
  refine sr (lv (n8 rfl rfl) (ns (A2 rfl (c6 (by omega)) (q7 (d4 (d4 (j5 ?_)))))))
  cases oi aj
  exact qd ⟨_, m, o, q, s, x, y, f, rfl, rfl, T, U, ae, af, ag⟩
 rintro _ aX ⟨i, X, Y, aa, ab, ac, ad, k, rfl, rfl, aN, aY, aZ, ba, bb⟩
 have S := C8 S
 refine qr (lv (A5 (cs := #[V6 0, V3 none 0 0, V3 none 0 0]) a93 C0 rfl (by kernel_rfl)) (lw [V6 0, V3 none 0 0, V3 none 0 0] C0 aN.f1 fun bc an => (lv (M7 rfl) (nq (i9 ?_)))))
 cases oi S
 exact R8 (vs := [_, _]) results76 ⟨⟨_, _, rfl, A8 C0 (cs := [V6 0, V3 none 0 0, V3 none 0 0]) (fun j c e => by rw [Nat.zero_add, an.mem_obj m0]; exact e) (.inl ⟨rfl, rfl, rfl⟩)⟩, rfl, trivial⟩ ⟨none, 0, 0, none, 0, 0, k, rfl, an.s, I0, (b7.nil _ _), (b7.nil _ _)⟩

theorem a2M {q0 : N3} {q1 : Int} {r : s7 × Bool} (hS : SH w K Z w K [q8 g1 [V3 A a b, V3 B c d, V3 C f i, V3 D k l] 123]) (aU : b7 B8 K A a b q0.c_.Stops) (aV : b7 I4 K B c d q0.c_.Syns) (ad : b7 E1 K C f i q0.s_.Docs) (aW : b7 z6 K D k l q0.s_.Entries) (aX : d9 q1) (hm : L5 F q0 q1 = some r) :
  Calls prog 76 #[.pointer (some ⟨g1, 2, none⟩), V6 q1] w fun e w' => ∃ a_2 n_3 c_4 a_6 n_7 c_8 K', e = .returned (.tuple #[.agg #[V6 r.1.Id, V3 a_2 n_3 c_4, V3 a_6 n_7 c_8], .bool r.2]) ∧ SH w K Z w' K' [q8 g1 [V3 A a b, V3 B c d, V3 C f i, V3 D k l] 123] ∧ d9 r.1.Id ∧ b7 F3 K' a_2 n_3 c_4 r.1.Fields ∧ b7 G5 K' a_6 n_7 c_8 r.1.Nums := by
 rw [L5] at hm
 refine ci func76 rfl ntmps76 (sr (al C0 hS fun W aY ax => ?_))
 have ap : SH _ _ _ _ _ [q8 W [V6 0, V3 none 0 0, V3 none 0 0] 54, _] := ax
 refine lv (M7 rfl) (P6 (mv rfl (lv (v8 rfl) (fl a03 rfl a5w m1 ap rfl (lv (k9 underlying35 rfl ad) (lv (r_m rfl) (nq ?_)))))))
 obtain ⟨ay, az, Y⟩ := ob hm
 refine j4 (fun E' w' => ∃ o ae af ag ah ai aj q, ay = .inl o ∧ E' = [(0, .pointer (some ⟨g1, 2, none⟩)), (4, pt W)] ∧ SH w K Z w' q [q8 g1 [V3 A a b, V3 B c d, V3 C f i, V3 D k l] 123, q8 W [V6 o.Id, V3 ae af ag, V3 ah ai aj] 54] ∧ H6 K q ∧ d9 o.Id ∧ b7 F3 q ae af ag o.Fields ∧ b7 G5 q ah ai aj o.Nums) ?_ ?_
 ·refine i5 ?_
  obtain ⟨aZ, aA, aq⟩ := ob az
  refine qf (fun (ar : Nat) (s : s7) E' w' => ∃ x y G H I J m, E' = [(0, .pointer (some ⟨g1, 2, none⟩)), (1, V6 q1), (4, pt W), (11, V3 C f i), (12, V6 (q0.s_.Docs.length : Int)), (13, V6 ((ar : Nat) : Int))] ∧ SH w K Z w' m [q8 g1 [V3 A a b, V3 B c d, V3 C f i, V3 D k l] 123, q8 W [V6 s.Id, V3 x y G, V3 H I J] 54] ∧ H6 K m ∧ d9 s.Id ∧ b7 F3 m x y G s.Fields ∧ b7 G5 m H I J s.Nums) aA ⟨none, 0, 0, none, 0, 0, K, rfl, ap.f1, kr, I0, (b7.nil _ _), (b7.nil _ _)⟩ ?_ ?_
  ·rintro ar s _ aB ba hi60 aC aD ⟨x, y, G, H, I, J, m, rfl, aa, ab, ak, am, an⟩
   refine sr (lv (n8 rfl rfl) (ns (A3 rfl (c7 (by omega)) (i6 (j6 (k8 (i5 (sr ?_))))))))
   obtain ⟨X, aE, aF⟩ := ob aC
   refine li underlying35 C0 (ad.mono ab) aE fun aG aH bb aI aJ => ?_
   obtain ⟨O, R, S, T, U, V, rfl, aK, aL, aM⟩ := aI
   have aN : D0 _ aG aH [V6 X.Id, V3 O R S, V3 T U V] := aJ
   refine lv (D4 C0 rfl aa aN rfl) (al C0 aa fun aO bc aP => ?_)
   have aQ : SH _ _ _ _ _ [q8 aO [V6 0, V3 none 0 0, V3 none 0 0] 54, _, _] := aP
   refine lw [V6 X.Id, V3 O R S, V3 T U V] C0 aQ fun bd ac => (nr (fl X7 rfl D8 m0 ac rfl (mv rfl (lv (u3 rfl rfl) (nq (B5 aF rfl (fun aR ao => ?_) (fun aR ao => ?_)))))))
   ·refine sr (lv (l3 (ds := [V6 X.Id, V3 O R S, V3 T U V]) C0 rfl m0 ac rfl rfl) (lw [V6 X.Id, V3 O R S, V3 T U V] C0 ac.f2 fun be au => (lv (r_t rfl) (nq (i9 (d8 (c9 (c9 ?_))))))))
    cases oi ao
    cases aD _ rfl
    refine d8 (c9 ?_)
    cases oi aq
    refine c9 ?_
    cases oi Y
    exact R8 (vs := [_, _]) results76 ⟨⟨_, _, rfl, A8 C0 (cs := [V6 X.Id, V3 O R S, V3 T U V]) (fun j c e => by rw [Nat.zero_add, au.mem_obj m0]; exact e) (.inl ⟨rfl, rfl, rfl⟩)⟩, rfl, trivial⟩ ⟨O, R, S, T, U, V, m, rfl, au.s, aK, aL, aM⟩
   refine i6 (o0 (qg (lv (y3 rfl rfl (A0 hi60 (b7.max ad))) (mv rfl (d7 ?_)))))
   cases oi ao
   exact qd ⟨_, rfl, x, y, G, H, I, J, m, rfl, ac.s, ab, ak, am, an⟩
  rintro s _ aB aS ⟨x, y, G, H, I, J, m, rfl, aa, ab, ak, am, an⟩
  subst aS
  refine sr (lv (n8 rfl rfl) (ns (A2 rfl (c6 (by omega)) (q7 (d4 (d4 (j5 ?_)))))))
  cases oi aq
  exact qd ⟨_, x, y, G, H, I, J, m, rfl, rfl, aa, ab, ak, am, an⟩
 rintro _ bf ⟨o, ae, af, ag, ah, ai, aj, q, rfl, rfl, aT, bg, bh, bi, bj⟩
 have Y := C8 Y
 refine qr (lv (A5 (cs := #[V6 0, V3 none 0 0, V3 none 0 0]) a93 C0 rfl (by kernel_rfl)) (lw [V6 0, V3 none 0 0, V3 none 0 0] C0 aT.f1 fun bk aw => (lv (M7 rfl) (nq (i9 ?_)))))
 cases oi Y
 exact R8 (vs := [_, _]) results76 ⟨⟨_, _, rfl, A8 C0 (cs := [V6 0, V3 none 0 0, V3 none 0 0]) (fun j c e => by rw [Nat.zero_add, aw.mem_obj m0]; exact e) (.inl ⟨rfl, rfl, rfl⟩)⟩, rfl, trivial⟩ ⟨none, 0, 0, none, 0, 0, q, rfl, aw.s, I0, (b7.nil _ _), (b7.nil _ _)⟩

end Go.Proofs.YtmkhlppjphodfaaGreatDoor
