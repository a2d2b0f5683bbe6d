/-
 Walks of the functions. Printed by gen.py.
-/
import Derived.Test.YtmkhlppjphodfaaGreatDoorFacts
set_option linter.unusedVariables false
set_option linter.unusedSectionVars false
set_option maxRecDepth 100000
namespace Go.Proofs.YtmkhlppjphodfaaGreatDoor
set_option maxHeartbeats 4000000
open Go Go.Fk Go.RowKit Tryz
variable (F : Nat) {w : World} {K : C5} {Z : List Nat} {g1 g2 g3 : Nat} {A B C D G H I J O R S T : Option Addr} {a b c d f i k l m n o p q s v x y aa ab ac ad ae af ag : Nat}
variable [dr : Dr]

theorem F0 {q0 : Int} {q1 : Int} {q2 : Int} {r : Bool} (hS : SH w K [] w K []) (c : d9 q0) (d : d9 q1) (f : d9 q2) (hm : D3 F q0 q1 q2 = some r) :
  Calls prog 87 #[V6 q0, V6 q1, V6 q2] w (R_b w K r) := by
 rw [D3] at hm
 refine ci func87 rfl ntmps87 (sr (lv (M7 rfl) (nr (mv rfl (mv rfl (lv (a2F rfl rfl) (mv rfl (bt hm (fun a b => ?_) (fun a b => ?_)))))))))
 ·refine lg a (d6 rfl) (lg a (d6 rfl) (lg a (R9 rfl rfl) (lv (j3 rfl a rfl) (av rfl (nq (i9 ?_))))))
  cases oi b
  exact ey results87 ⟨K, rfl, hS⟩
 refine lu a (lu a (lu a (lv (F7 rfl a rfl) (av rfl (nq (i9 ?_))))))
 cases oi b
 exact ey results87 ⟨K, rfl, hS⟩

theorem a29 {q0 : UInt8} {r : UInt8} (hS : SH w K [] w K []) (hm : N5 F q0 = some r) :
  Calls prog 138 #[iv8 q0] w fun e w' => ∃ K', e = .returned (iv8 r) ∧ SH w K [] w' K' [] := by
 rw [N5] at hm
 refine ci func138 rfl ntmps138 (sr (lv (r9 (v := iv8 0) rfl) (ns (i5 (k8 ?_)))))
 obtain ⟨D, G, H⟩ := ob hm
 refine j4 (IV w K [] K [(0, iv8 q0), (3, .bool D)] []) ?_ ?_
 ·refine i7 (mv rfl (lv (a42 (b := (65 : UInt8)) rfl rfl) (mv rfl (bt G (fun c m => ?_) (fun c m => ?_)))))
  ·refine lg c (d6 rfl) (lg c (a43 (b := (90 : UInt8)) rfl rfl) (lv (j3 rfl c rfl) (av rfl (d7 ?_))))
   cases oi m
   exact qd ⟨K, rfl, hS, kr⟩
  refine lu c (lu c (lv (F7 rfl c rfl) (av rfl (d7 ?_))))
  cases oi m
  exact qd ⟨K, rfl, hS, kr⟩
 rintro _ T ⟨d, rfl, l, U⟩
 refine j6 (B5 H rfl (fun I o => ?_) (fun I o => ?_))
 ·refine sr (mv rfl (lv (b3P (b := (32 : UInt8)) rfl rfl) (av rfl (nq (i9 (d8 (c9 ?_)))))))
  cases oi o
  exact ey results138 ⟨d, rfl, l⟩
 refine k8 ?_
 obtain ⟨J, O, R⟩ := ob o
 refine j4 (IV w K [] d [(0, iv8 q0), (12, .bool J)] []) ?_ ?_
 ·refine i7 (mv rfl (lv (a42 (b := (97 : UInt8)) rfl rfl) (mv rfl (bt O (fun f q => ?_) (fun f q => ?_)))))
  ·refine lg f (d6 rfl) (lg f (a43 (b := (122 : UInt8)) rfl rfl) (lv (j3 rfl f rfl) (mv rfl (bt q (fun a s => ?_) (fun a s => ?_)))))
   ·refine lu a (lu a (lu a (u1 (uu rfl rfl) rfl (u1 (uu rfl rfl) rfl (lu a (lv (K5 rfl a rfl) (av rfl (d7 ?_))))))))
    cases oi s
    exact qd ⟨d, rfl, l, kr⟩
   refine lg a (d6 rfl) (lg a (a42 (b := (48 : UInt8)) rfl rfl) (lg a (d6 rfl) (bt s (fun i x => ?_) (fun i x => ?_))))
   ·refine lg i (d6 rfl) (lg i (a43 (b := (57 : UInt8)) rfl rfl) (lg a (j3 rfl i rfl) (lv (j9 rfl a rfl) (av rfl (d7 ?_)))))
    cases oi x
    exact qd ⟨d, rfl, l, kr⟩
   refine lu i (lu i (lg a (F7 rfl i rfl) (lv (j9 rfl a rfl) (av rfl (d7 ?_)))))
   cases oi x
   exact qd ⟨d, rfl, l, kr⟩
  refine lu f (lu f (lv (F7 rfl f rfl) (mv rfl (lg rfl (d6 rfl) (lg rfl (a42 (b := (48 : UInt8)) rfl rfl) (lg rfl (d6 rfl) (bt q (fun k y => ?_) (fun k y => ?_))))))))
  ·refine lg k (d6 rfl) (lg k (a43 (b := (57 : UInt8)) rfl rfl) (lg rfl (j3 rfl k rfl) (lv (j9 rfl rfl rfl) (av rfl (d7 ?_)))))
   cases oi y
   exact qd ⟨d, rfl, l, kr⟩
  refine lu k (lu k (lg rfl (F7 rfl k rfl) (lv (j9 rfl rfl rfl) (av rfl (d7 ?_)))))
  cases oi y
  exact qd ⟨d, rfl, l, kr⟩
 rintro _ V ⟨B, rfl, C, W⟩
 refine j6 (B5 R rfl (fun S A => ?_) (fun S A => ?_))
 ·refine sr (mv rfl (av rfl (nq (i9 (d8 (c9 ?_))))))
  cases oi A
  exact ey results138 ⟨B, rfl, C⟩
 refine i6 (o0 (qr (lv (r9 (v := iv8 0) rfl) (nq (i9 ?_)))))
 cases oi A
 exact ey results138 ⟨B, rfl, C⟩

theorem D6 {q0 : k6} {r : Bool} (hS : SH w K [] w K []) (B : q0.length ≤ maxLen) (hm : B0 F q0 = some r) :
  Calls prog 85 #[sv q0] w (R_b w K r) := by
 rw [B0] at hm
 refine ci func85 rfl ntmps85 (sr (lv (M7 rfl) (P6 (lv (L3 rfl) (nq ?_)))))
 obtain ⟨C, D, c⟩ := ob hm
 refine j4 (IE C w K [] K [(0, sv q0)] []) ?_ ?_
 ·refine i5 ?_
  obtain ⟨ap, G, l⟩ := ob D
  refine qw (fun (d : Int) => IW w K [] K [(0, sv q0), (3, V6 d)] [] (d9 d)) G ⟨K, rfl, hS, kr, I0⟩ ?_
  rintro d _ aq ar H m ⟨o, rfl, q, s, au⟩
  refine k8 (sr (mv rfl (mv rfl (lv (F1 underlying9 rfl) (lv (n8 rfl rfl) (nq (B5 H rfl (fun I f => ?_) (fun I f => ?_))))))))
  ·refine i6 (qs (i5 (k8 ?_)))
   obtain ⟨J, O, R⟩ := ob f
   refine j4 (IV w K [] o [(0, sv q0), (3, V6 d), (23, .bool J)] []) ?_ ?_
   ·refine C2 mixed (by kernel_rfl) q (km rfl (km rfl ?_))
    obtain ⟨aw, S, T⟩ := ob O
    refine kv (G8 underlying9 rfl rfl S) ?_
    obtain ⟨ax, U, V⟩ := ob T
    refine kc b5o (fun _ _ W ay => (a29 F) W.enter0  U) (km rfl (km rfl ?_))
    obtain ⟨az, X, Y⟩ := ob V
    refine kv (G8 underlying9 rfl rfl X) (kv (a44 rfl rfl) (km rfl (bt Y (fun a i => ?_) (fun a i => ?_))))
    ·refine kn a (kn a (kn a (kn a (kv (K5 rfl a rfl) (z7 ?_)))))
     rintro aA ⟨aa, ab, ac⟩
     cases oi i
     exact qd ⟨aa, rfl, ab, ac⟩
    refine kg a (d6 rfl) (kg a (d6 rfl) ?_)
    obtain ⟨aB, ad, ae⟩ := ob i
    refine kg a (G8 underlying9 rfl rfl ad) (kg a (a5U (b := (0 : UInt8)) rfl rfl) (kv (j9 rfl a rfl) (z7 ?_)))
    rintro aC ⟨af, ag, ah⟩
    cases oi ae
    exact qd ⟨af, rfl, ag, ah⟩
   rintro _ aD ⟨x, rfl, y, ai⟩
   refine j6 (B5 R rfl (fun aj k => ?_) (fun aj k => ?_))
   ·refine sr (lv (M7 rfl) (nq (i9 (d8 (c9 (c9 ?_))))))
    cases oi k
    cases m _ rfl
    refine d8 (c9 ?_)
    cases oi l
    refine c9 ?_
    cases oi c
    exact ey results85 ⟨x, rfl, y⟩
   refine i6 (o0 (j6 (i7 (mv rfl (lv (s6 rfl rfl) (av rfl (d7 ?_)))))))
   cases oi k
   exact qd ⟨_, rfl, x, rfl, y, (s.trans ai), (l9 _)⟩
  refine q7 (d4 (d4 ?_))
  cases oi f
  cases m _ rfl
  refine j5 ?_
  cases oi l
  exact qd ⟨_, o, rfl, rfl, q, s⟩
 rintro _ w8 ⟨s5, K6, rfl, rfl, A, aH⟩
 have c := C8 c
 refine qr (mv rfl (lv (F1 underlying9 rfl) ?_))
 obtain ⟨aI, ak, al⟩ := ob c
 refine lk a4B (F0 F A.enter0 (a3o B) (by decide : d9 1) (by decide : d9 12) ak) ?_
 rintro aJ aK ⟨am, rfl, an⟩
 have ao := (A.c0 an).t0
 refine av rfl (nq (i9 ?_))
 cases oi al
 exact ey results85 ⟨am, rfl, ao⟩

theorem a3A {q0 : List k6} {q1 : k6} {r : Bool} (hS : SH w K [] w K []) (o : b7 B8 K A a b q0) (X : q1.length ≤ maxLen) (hm : X4 F q0 q1 = some r) :
  Calls prog 89 #[V3 A a b, sv q1] w (R_b w K r) := by
 rw [X4] at hm
 refine ci func89 rfl ntmps89 (sr (lv (M7 rfl) (P6 (lv (L3 rfl) (nq ?_)))))
 obtain ⟨x, y, c⟩ := ob hm
 refine j4 (IE x w K [] K [] []) ?_ ?_
 ·refine i5 ?_
  obtain ⟨Y, B, q⟩ := ob y
  refine qw (fun (i : Int) => IW w K [] K [(0, V3 A a b), (1, sv q1), (5, V6 i)] [] (d9 i)) B ⟨K, rfl, hS, kr, I0⟩ ?_
  rintro i _ aa ab C s ⟨k, rfl, d, f, ac⟩
  refine k8 (sr (mv rfl (mv rfl (lv (k9 underlying23 rfl (o.mono f)) (lv (n8 rfl rfl) (nq (B5 C rfl (fun D l => ?_) (fun D l => ?_))))))))
  ·refine i6 (qs (i5 (sr (mv rfl (mv rfl ?_)))))
   obtain ⟨G, H, I⟩ := ob l
   refine li underlying23 D9 (o.mono f) H fun J O ad R S => ?_
   obtain ⟨rfl, ae⟩ := R
   have T : D0 _ J O [sv G] := S
   refine lv (u0 D9 rfl d (T 0 _ rfl)) (mv rfl (lv (H0 rfl rfl) (nq (B5 I rfl (fun U m => ?_) (fun U m => ?_)))))
   ·refine sr (lv (r_t rfl) (nq (i9 (d8 (c9 (c9 ?_))))))
    cases oi m
    cases s _ rfl
    refine d8 (c9 ?_)
    cases oi q
    refine c9 ?_
    cases oi c
    exact ey results89 ⟨k, rfl, d⟩
   refine i6 (o0 (j6 (i7 (mv rfl (lv (s6 rfl rfl) (av rfl (d7 ?_)))))))
   cases oi m
   exact qd ⟨_, rfl, k, rfl, d, f, (l9 _)⟩
  refine q7 (d4 (d4 ?_))
  cases oi l
  cases s _ rfl
  refine j5 ?_
  cases oi q
  exact H9 ⟨_, k, rfl, rfl, d, f⟩ trivial
 rintro _ af ⟨s9, V, rfl, rfl, W, ah⟩
 have c := C8 c
 refine qr (lv (M7 rfl) (nq (i9 ?_)))
 cases oi c
 exact ey results89 ⟨V, rfl, W⟩

theorem a4V {r : (List k6)} (hS : SH w K [] w K []) (hm : a1c F  = some r) :
  Calls prog 199 #[] w fun e w' => ∃ a_1 n_2 c_3 K', e = .returned (V3 a_1 n_2 c_3) ∧ SH w K [] w' K' [tail (V3 a_1 n_2 c_3) 9 1] ∧ b7 B8 K' a_1 n_2 c_3 r := by
 rw [a1c] at hm
 refine ci func199 rfl ntmps199 (sr (lv (r_n rfl) (nr (bw [[105, 110, 103], [101, 100], [101, 115], [108, 121], [115]] underlying23 D9 hS fun a f b i c d => (av rfl (nq (i9 ?_)))))))
 cases oi hm
 exact ey results199 ⟨a, 5, 5, b, rfl, d, c⟩

theorem a4W {q0 : k6} {r : k6} (hS : SH w K [] w K []) (q : q0.length ≤ maxLen) (hm : Q7 F q0 = some r) :
  Calls prog 159 #[sv q0] w fun e w' => ∃ K', e = .returned (sv r) ∧ SH w K [] w' K' [] ∧ r.length ≤ maxLen := by
 rw [Q7] at hm
 refine ci func159 rfl ntmps159 (sr (lv (r_s rfl) (P6 (lv (L3 rfl) (nq ?_)))))
 obtain ⟨I, J, b⟩ := ob hm
 refine j4 (IE I w K [] K [(0, sv q0)] []) ?_ ?_
 ·refine i5 ?_
  obtain ⟨au, O, s⟩ := ob J
  refine qw (fun (c : Int) => IW w K [] K [(0, sv q0), (3, V6 c)] [] (d9 c)) O ⟨K, rfl, hS, kr, I0⟩ ?_
  rintro c _ aw ax R x ⟨ay, rfl, y, A, az⟩
  refine k8 (sr (mv rfl ?_))
  obtain ⟨aA, S, T⟩ := ob R
  refine lk b7y (a4V F y.enter0  S) ?_
  rintro aB aC ⟨aD, aE, aF, U, rfl, d, V⟩
  have f := (y.c0 d).t1
  refine lv (k9 underlying23 rfl V) (lv (n8 rfl rfl) (nq (B5 T rfl (fun W i => ?_) (fun W i => ?_))))
  ·refine i6 (qs (i5 (sr ?_)))
   obtain ⟨aG, X, Y⟩ := ob i
   refine lk b7y (a4V F f.enter0  X) ?_
   rintro aH aI ⟨aJ, aK, aL, k, rfl, B, aa⟩
   have l := (f.c0 B).t2
   refine mv rfl ?_
   obtain ⟨C, ab, ac⟩ := ob Y
   refine li underlying23 D9 aa ab fun ad ae aM af ag => ?_
   obtain ⟨rfl, aN⟩ := af
   have ah : D0 _ ad ae [sv C] := ag
   refine lv (u0 D9 rfl l (ah 0 _ rfl)) (av rfl (nr (mv rfl (lv (F1 underlying9 rfl) (mv rfl (lv (F1 underlying9 rfl) (lv (F2 rfl rfl) (av rfl (ns ?_)))))))))
   obtain ⟨ai, aj, ak⟩ := ob ac
   refine j4 (IV w K [] k [(0, sv q0), (3, V6 c), (5, V6 (u6 ((q0.length : Int) - (C.length : Int)))), (29, .bool ai)] []) ?_ ?_
   ·refine i7 (mv rfl (lv (a2F rfl rfl) (mv rfl (bt aj (fun a m => ?_) (fun a m => ?_)))))
    ·refine lg a (d6 rfl) (lg a (d6 rfl) ?_)
     obtain ⟨aO, al, am⟩ := ob m
     refine lg a (T5 underlying9 rfl rfl al) (lg a (d6 rfl) (lg a (H0 rfl rfl) (lv (j3 rfl a rfl) (d7 ?_))))
     cases oi am
     exact qd ⟨k, rfl, l.s, kr⟩
    iterate 5 refine lu a ?_
    refine lv (F7 rfl a rfl) (d7 ?_)
    cases oi m
    exact qd ⟨k, rfl, l.s, kr⟩
   rintro _ aP ⟨D, rfl, G, an⟩
   refine j6 (B5 ak rfl (fun ao o => ?_) (fun ao o => ?_))
   ·refine sr (mv rfl (mv rfl ?_))
    obtain ⟨aQ, H, ap⟩ := ob o
    refine lv (b19 underlying9 rfl rfl H) (av rfl (nq (i9 (d8 (c9 (c9 ?_))))))
    cases oi ap
    cases x _ rfl
    refine d8 (c9 ?_)
    cases oi s
    refine c9 ?_
    cases oi b
    exact ey results159 ⟨D, rfl, G, (Y0 q H)⟩
   refine i6 (o0 (j6 (i7 (mv rfl (lv (s6 rfl rfl) (av rfl (d7 ?_)))))))
   cases oi o
   exact qd ⟨_, rfl, D, rfl, G, (((A.trans d.le).trans B.le).trans an), (l9 _)⟩
  refine q7 (d4 (d4 ?_))
  cases oi i
  cases x _ rfl
  refine j5 ?_
  cases oi s
  exact qd ⟨_, U, rfl, rfl, f.s, (A.trans d.le)⟩
 rintro _ w8 ⟨s5, K6, rfl, rfl, ar, aT⟩
 have b := C8 b
 refine qr (mv rfl (av rfl (nq (i9 ?_))))
 cases oi b
 exact ey results159 ⟨K6, rfl, ar, q⟩

theorem a0L {q0 : k6} {r : k6} (hS : SH w K [] w K []) (o : q0.length ≤ maxLen) (hm : T9 F q0 = some r) :
  Calls prog 105 #[sv q0] w fun e w' => ∃ K', e = .returned (sv r) ∧ SH w K [] w' K' [] ∧ r.length ≤ maxLen := by
 rw [T9] at hm
 refine ci func105 rfl ntmps105 (sr (lv (r_s rfl) (ns ?_)))
 obtain ⟨i, q, s⟩ := ob hm
 refine j4 (IW w K [] K [(0, sv i)] [] (i.length ≤ maxLen)) ?_ ?_
 ·refine i5 ?_
  obtain ⟨W, x, y⟩ := ob q
  refine qw (fun (a : k6) => IW w K [] K [(0, sv a)] [] (a.length ≤ maxLen)) x ⟨K, rfl, hS, kr, o⟩ ?_
  rintro a _ X Y A B ⟨aa, rfl, k, l, b⟩
  refine k8 (sr (mv rfl ?_))
  obtain ⟨ab, C, D⟩ := ob A
  refine lk b7t (a4W F k.enter0 b C) ?_
  rintro ac ad ⟨G, rfl, c, ae⟩
  have d := (k.c0 c).t0
  refine mv rfl (lv (a0o rfl rfl) (nq (B5 D rfl (fun H f => ?_) (fun H f => ?_))))
  ·refine i6 (j6 (i5 (i7 (mv rfl ?_))))
   obtain ⟨af, I, J⟩ := ob f
   refine lk b7t (a4W F d.enter0 b I) ?_
   rintro ag ah ⟨O, rfl, m, R⟩
   have S := (d.c0 m).t0
   refine av rfl (nb ?_)
   cases oi J
   exact qd ⟨_, rfl, O, rfl, S, ((l.trans c.le).trans m.le), R⟩
  refine q7 (d4 (d4 ?_))
  cases oi f
  cases B _ rfl
  refine j5 ?_
  cases oi y
  exact qd ⟨G, rfl, d, (l.trans c.le), b⟩
 rintro _ w7 ⟨T, rfl, U, aj, V⟩
 refine qr (mv rfl (av rfl (nq (i9 ?_))))
 cases oi s
 exact ey results105 ⟨T, rfl, U, V⟩

theorem a6s {q0 : q9} {r : Bool} (hS : SH w K [] w K []) (G : b7 B8 K A a b q0.Stops) (ae : b7 I4 K B c d q0.Syns) (hm : a1A F q0 = some r) :
  Calls prog 55 #[.agg #[V3 A a b, V3 B c d]] w (R_b w K r) := by
 rw [a1A] at hm
 refine ci func55 rfl ntmps55 (sr (bx rfl hS fun f dV aU => ?_))
 have aV : SH _ _ _ _ _ [q8 f [V3 A a b, V3 B c d] 26] := aU
 refine lv (M7 rfl) (P6 (lv (L3 rfl) (nq ?_)))
 obtain ⟨aW, aX, W⟩ := ob hm
 refine j4 (IE aW w K [] K [(1, pt f)] [q8 f [V3 A a b, V3 B c d] 26]) ?_ ?_
 ·refine i5 ?_
  obtain ⟨dW, aY, aC⟩ := ob aX
  refine qw (fun (X : Int) => IW w K [] K [(1, pt f), (3, V6 X)] [q8 f [V3 A a b, V3 B c d] 26] (d9 X)) aY ⟨K, rfl, aV, kr, I0⟩ ?_
  rintro X _ dX dY aZ aD ⟨aE, rfl, af, H, dZ⟩
  refine k8 (sr (mv rfl (fl a1w rfl O5 m0 af rfl (lv (k9 underlying23 rfl (G.mono H)) (lv (n8 rfl rfl) (nq (B5 aZ rfl (fun ba ag => ?_) (fun ba ag => ?_))))))))
  ·refine i6 (qs (i5 (k8 ?_)))
   obtain ⟨bb, bc, bd⟩ := ob ag
   refine j4 (IV w K [] aE [(1, pt f), (3, V6 X), (38, .bool bb)] [q8 f [V3 A a b, V3 B c d] 26]) ?_ ?_
   ·refine C2 mixed (by kernel_rfl) af (kv (b8 a1w rfl) (kh (u2 O5 rfl m0 rfl) (km rfl ?_)))
    obtain ⟨be, bf, bg⟩ := ob bc
    refine ki underlying23 D9 (G.mono H) bf fun bh bi ea bj bk => ?_
    obtain ⟨rfl, bl⟩ := bj
    have bm : D0 _ bh bi [sv be] := bk
    refine kh (z8 D9 rfl (bm 0 _ rfl)) ?_
    obtain ⟨eb, bn, bo⟩ := ob bg
    refine kc a6e (fun _ _ bp ec => (D6 F) bp.enter0 bl bn) (kv (y4 rfl) (km rfl (bt bo (fun l ah => ?_) (fun l ah => ?_))))
    ·refine kn l (kn l (kn l ?_))
     iterate 12 refine ku ?_
     refine kn l (kv (K5 rfl l rfl) (z7 ?_))
     rintro ed ⟨bq, br, bs⟩
     cases oi ah
     exact qd ⟨bq, rfl, br, bs⟩
    refine kg l (d6 rfl) (kg l (E5 rfl rfl) (kg l (d6 rfl) (bt ah (fun i ai => ?_) (fun i ai => ?_))))
    ·refine kg i (b8 a1w rfl) (kgh i (u2 O5 rfl m0 rfl) (kg i (d6 rfl) ?_))
     obtain ⟨bu, bv, bz⟩ := ob ai
     refine B4 (t := B8) (wg rfl rfl i) rfl underlying23 D9 rfl rfl (G.mono H) bv fun bA bB ee bC bD => ?_
     obtain ⟨rfl, ef⟩ := bC
     have bE : D0 _ bA bB [sv bu] := bD
     refine kgh i (z8 D9 rfl (bE 0 _ rfl)) (kg i (b8 a1w rfl) (kgh i (u2 O5 rfl m0 rfl) (kg i (d6 rfl) (kg i (F2 rfl rfl) ?_))))
     obtain ⟨bF, bG, bH⟩ := ob bz
     refine B4 (t := B8) (wg rfl rfl i) rfl underlying23 D9 rfl rfl (G.mono H) bG fun bI bJ eg bK bL => ?_
     obtain ⟨rfl, eh⟩ := bK
     have bM : D0 _ bI bJ [sv bF] := bL
     refine kgh i (z8 D9 rfl (bM 0 _ rfl)) (kg i (b08 rfl rfl) (kg l (j3 rfl i rfl) (kv (j9 rfl l rfl) (z7 ?_))))
     rintro ei ⟨bN, bO, bP⟩
     cases oi bH
     exact qd ⟨bN, rfl, bO, bP⟩
    iterate 12 refine kn i ?_
    refine kg l (F7 rfl i rfl) (kv (j9 rfl l rfl) (z7 ?_))
    rintro ej ⟨bQ, bR, bS⟩
    cases oi ai
    exact qd ⟨bQ, rfl, bR, bS⟩
   rintro _ ek ⟨aF, rfl, aG, bT⟩
   refine j6 (B5 bd rfl (fun bU aj => ?_) (fun bU aj => ?_))
   ·refine sr (lv (M7 rfl) (nq (i9 (d8 (c9 (c9 ?_))))))
    cases oi aj
    cases aD _ rfl
    refine d8 (c9 ?_)
    cases oi aC
    refine c9 ?_
    cases oi W
    exact ey results55 ⟨aF, rfl, aG.s⟩
   refine i6 (o0 (j6 (i7 (mv rfl (lv (s6 rfl rfl) (av rfl (d7 ?_)))))))
   cases oi aj
   exact qd ⟨_, rfl, aF, rfl, aG, (H.trans bT), (l9 _)⟩
  refine q7 (d4 (d4 ?_))
  cases oi ag
  cases aD _ rfl
  refine j5 ?_
  cases oi aC
  exact qd ⟨_, aE, rfl, rfl, af, H⟩
 rintro _ el ⟨em, ak, rfl, rfl, bV, I⟩
 have W := C8 W
 refine qs (sr (lv (L3 rfl) (nq ?_)))
 obtain ⟨bW, bX, J⟩ := ob W
 refine j4 (IE bW w K [] ak [(1, pt f)] [q8 f [V3 A a b, V3 B c d] 26]) ?_ ?_
 ·refine i5 ?_
  obtain ⟨en, bY, am⟩ := ob bX
  refine qw (fun (y : Int) => IW w K [] ak [(1, pt f), (4, V6 y)] [q8 f [V3 A a b, V3 B c d] 26] (d9 y)) bY ⟨ak, rfl, bV, kr, I0⟩ ?_
  rintro y _ eo ep bZ an ⟨Y, rfl, O, R, eq⟩
  refine k8 (sr (mv rfl (fl a1x rfl a5V m0 O rfl (lv (k9 underlying24 rfl (ae.mono (I.trans R))) (lv (n8 rfl rfl) (nq (B5 bZ rfl (fun ca ao => ?_) (fun ca ao => ?_))))))))
  ·refine i6 (qs (i5 (sr (fl a1x rfl a5V m0 O rfl (mv rfl ?_)))))
   obtain ⟨S, cb, cc⟩ := ob ao
   refine li underlying24 a3Z (ae.mono (I.trans R)) cb fun cd ce es cf cg => ?_
   obtain ⟨T, U, V, rfl, C, ap⟩ := cf
   have ch : D0 _ cd ce [V3 T U V, sv S.To] := cg
   refine lv (D4 a3Z rfl O ch rfl) (al a3Z O fun D et cj => ?_)
   have ck : SH _ _ _ _ _ [q8 D [V3 none 0 0, sv []] 96, _] := cj
   refine lw [V3 T U V, sv S.To] a3Z ck fun eu cl => (P6 (lv (L3 rfl) (nq ?_)))
   obtain ⟨cm, cn, aa⟩ := ob cc
   refine j4 (IE cm w K [] Y [(1, pt f), (4, V6 y), (5, pt D)] [q8 f [V3 A a b, V3 B c d] 26, q8 D [V3 T U V, sv S.To] 96]) ?_ ?_
   ·refine i5 ?_
    obtain ⟨ev, cp, aH⟩ := ob cn
    refine qw (fun (ab : Int) => IW w K [] Y [(1, pt f), (4, V6 y), (5, pt D), (6, V6 ab)] [q8 f [V3 A a b, V3 B c d] 26, q8 D [V3 T U V, sv S.To] 96] (d9 ab)) cp ⟨Y, rfl, cl.f1, kr, I0⟩ ?_
    rintro ab _ ew ex cq aI ⟨aJ, rfl, ac, x, eA⟩
    refine k8 (sr (mv rfl (fl a0K rfl O5 m1 ac rfl (lv (k9 underlying23 rfl (C.mono x)) (lv (n8 rfl rfl) (nq (B5 cq rfl (fun cr aq => ?_) (fun cr aq => ?_))))))))
    ·refine i6 (qs (i5 (k8 ?_)))
     obtain ⟨cs, ct, cu⟩ := ob aq
     refine j4 (IV w K [] aJ [(1, pt f), (4, V6 y), (5, pt D), (6, V6 ab), (88, .bool cs)] [q8 f [V3 A a b, V3 B c d] 26, q8 D [V3 T U V, sv S.To] 96]) ?_ ?_
     ·refine C2 mixed (by kernel_rfl) ac (kv (b8 a0K rfl) (kh (u2 O5 rfl m1 rfl) (km rfl ?_)))
      obtain ⟨cv, cw, cx⟩ := ob ct
      refine ki underlying23 D9 (C.mono x) cw fun cy cz eB cA cB => ?_
      obtain ⟨rfl, cC⟩ := cA
      have cD : D0 _ cy cz [sv cv] := cB
      refine kh (z8 D9 rfl (cD 0 _ rfl)) ?_
      obtain ⟨eC, cE, cF⟩ := ob cx
      refine kc a6e (fun _ _ cG eD => (D6 F) cG.enter0 cC cE) (kv (y4 rfl) (km rfl (bt cF (fun k ar => ?_) (fun k ar => ?_))))
      ·iterate 12 refine kn k ?_
       refine kv (K5 rfl k rfl) (km rfl ?_)
       iterate 8 refine qv rfl rfl rfl rfl ?_
       refine kv (K5 rfl rfl rfl) (z7 ?_)
       rintro eE ⟨cH, cI, cJ⟩
       cases oi ar
       exact qd ⟨cH, rfl, cI, cJ⟩
      refine kg k (b8 a0K rfl) (kgh k (u2 O5 rfl m1 rfl) (kg k (d6 rfl) ?_))
      obtain ⟨cK, cL, cM⟩ := ob ar
      refine B4 (t := B8) (wg rfl rfl k) rfl underlying23 D9 rfl rfl (C.mono x) cL fun cN cO eF cP cQ => ?_
      obtain ⟨rfl, aK⟩ := cP
      have cR : D0 _ cN cO [sv cK] := cQ
      refine kgh k (z8 D9 rfl (cR 0 _ rfl)) ?_
      obtain ⟨eG, aL, cS⟩ := ob cM
      refine kdg k b5k (fun _ _ cT eH => (a0L F) cT.enter0 aK aL) ?_
      obtain ⟨_, _, _, ⟨_, _, _, eI⟩, _⟩ := (a0L F) ac.enter0 aK aL []
      refine kg k (b8 a0K rfl) (kgh k (u2 O5 rfl m1 rfl) (kg k (d6 rfl) ?_))
      obtain ⟨cU, cV, cW⟩ := ob cS
      refine B4 (t := B8) (wg rfl rfl k) rfl underlying23 D9 rfl rfl (C.mono x) cV fun cX cY eJ cZ da => ?_
      obtain ⟨rfl, eK⟩ := cZ
      have db : D0 _ cX cY [sv cU] := da
      refine kgh k (z8 D9 rfl (db 0 _ rfl)) (kg k (a0o rfl rfl) (kv (j9 rfl k rfl) (km rfl (bt cW (fun m au => ?_) (fun m au => ?_)))))
      ·iterate 8 refine kn m ?_
       refine kv (K5 rfl m rfl) (z7 ?_)
       rintro eL ⟨dc, dd, de⟩
       cases oi au
       exact qd ⟨dc, rfl, dd, de⟩
      refine kg m (b8 a1w rfl) (kgh m (u2 O5 rfl m0 rfl) (kg m (b8 a0K rfl) (kgh m (u2 O5 rfl m1 rfl) (kg m (d6 rfl) ?_))))
      obtain ⟨df, dg, dh⟩ := ob au
      refine B4 (t := B8) (wg rfl rfl m) rfl underlying23 D9 rfl rfl (C.mono x) dg fun di dj eM dk dl => ?_
      obtain ⟨rfl, dm⟩ := dk
      have dn : D0 _ di dj [sv df] := dl
      refine kgh m (z8 D9 rfl (dn 0 _ rfl)) ?_
      obtain ⟨eN, dp, dq⟩ := ob dh
      refine kcg m b70 (fun _ _ dr ds => (a3A F) dr.enter0 (b7.mono (((I.trans R).trans x).trans ds) G) dm dp) (kv (j9 rfl m rfl) (z7 ?_))
      rintro eO ⟨dt, du, dv⟩
      cases oi dq
      exact qd ⟨dt, rfl, du, dv⟩
     rintro _ eP ⟨aM, rfl, aN, dw⟩
     refine j6 (B5 cu rfl (fun dx aw => ?_) (fun dx aw => ?_))
     ·refine sr (lv (M7 rfl) (nq (i9 (d8 (c9 (c9 ?_))))))
      cases oi aw
      cases aI _ rfl
      refine d8 (c9 ?_)
      cases oi aH
      refine c9 (d8 (c9 (c9 ?_)))
      cases oi aa
      cases an _ rfl
      refine d8 (c9 ?_)
      cases oi am
      refine c9 ?_
      cases oi J
      exact ey results55 ⟨aM, rfl, aN.s⟩
     refine i6 (o0 (j6 (i7 (mv rfl (lv (s6 rfl rfl) (av rfl (d7 ?_)))))))
     cases oi aw
     exact qd ⟨_, rfl, aM, rfl, aN, (x.trans dw), (l9 _)⟩
    refine q7 (d4 (d4 ?_))
    cases oi aq
    cases aI _ rfl
    refine j5 ?_
    cases oi aH
    exact qd ⟨_, aJ, rfl, rfl, ac, x⟩
   rintro _ eQ ⟨eR, dy, rfl, rfl, aO, ax⟩
   have aa := C8 aa
   refine qs ?_
   obtain ⟨dz, dA, dB⟩ := ob aa
   refine j4 (IV w K [] dy [(1, pt f), (4, V6 y), (107, .bool dz)] [q8 f [V3 A a b, V3 B c d] 26]) ?_ ?_
   ·refine C2 mixed (by kernel_rfl) aO (kv (b8 a0K rfl) (kh (u2 O5 rfl m1 rfl) (kv (k9 underlying23 rfl (C.mono ax)) ?_)))
    obtain ⟨eS, dC, dD⟩ := ob dA
    refine kc a4B (fun _ _ dE eT => (F0 F) dE.enter0 (C.mono ax).rn (by decide : d9 1) (by decide : d9 3) dC) (kv (y4 rfl) (km rfl (bt dD (fun o ay => ?_) (fun o ay => ?_))))
    ·refine kn o (kn o (kn o (kn o (kv (K5 rfl o rfl) (km rfl ?_)))))
     iterate 6 refine qv rfl rfl rfl rfl ?_
     refine kv (K5 rfl rfl rfl) (z7 ?_)
     rintro eU ⟨dF, dG, dH⟩
     cases oi ay
     exact qd ⟨dF, rfl, dG.s, dH⟩
    refine kg o (b8 a4F rfl) (kgh o (u2 D9 rfl m1 rfl) ?_)
    obtain ⟨eV, dI, dJ⟩ := ob ay
    refine kcg o a6e (fun _ _ dK eW => (D6 F) dK.enter0 ap dI) (kg o (y4 rfl) (kv (j9 rfl o rfl) (km rfl (bt dJ (fun s az => ?_) (fun s az => ?_)))))
    ·iterate 6 refine kn s ?_
     refine kv (K5 rfl s rfl) (z7 ?_)
     rintro eX ⟨dL, dM, dN⟩
     cases oi az
     exact qd ⟨dL, rfl, dM.s, dN⟩
    refine kg s (b8 a4F rfl) (kgh s (u2 D9 rfl m1 rfl) ?_)
    obtain ⟨eY, aP, dO⟩ := ob az
    refine kdg s b5k (fun _ _ dP eZ => (a0L F) dP.enter0 ap aP) ?_
    obtain ⟨_, _, _, ⟨_, _, _, fb⟩, _⟩ := (a0L F) aO.enter0 ap aP []
    refine kg s (b8 a4F rfl) (kgh s (u2 D9 rfl m1 rfl) (kg s (a0o rfl rfl) (kv (j9 rfl s rfl) (z7 ?_))))
    rintro fc ⟨dQ, dR, dS⟩
    cases oi dO
    exact qd ⟨dQ, rfl, dR.s, dS⟩
   rintro _ fd ⟨aQ, rfl, aR, dT⟩
   refine j6 (B5 dB rfl (fun dU aA => ?_) (fun dU aA => ?_))
   ·refine sr (lv (M7 rfl) (nq (i9 (d8 (c9 (c9 ?_))))))
    cases oi aA
    cases an _ rfl
    refine d8 (c9 ?_)
    cases oi am
    refine c9 ?_
    cases oi J
    exact ey results55 ⟨aQ, rfl, aR.s⟩
   refine i6 (o0 (j6 (i7 (mv rfl (lv (s6 rfl rfl) (av rfl (d7 ?_)))))))
   cases oi aA
   exact qd ⟨_, rfl, aQ, rfl, aR, ((R.trans ax).trans dT), (l9 _)⟩
  refine q7 (d4 (d4 ?_))
  cases oi ao
  cases an _ rfl
  refine j5 ?_
  cases oi am
  exact qd ⟨_, Y, rfl, rfl, O, R⟩
 rintro _ fe ⟨fg, aS, rfl, rfl, ad, aT⟩
 have J := C8 J
 refine qr (fl a1w rfl O5 m0 ad rfl (lv (k9 underlying23 rfl (G.mono (I.trans aT))) (lv (R9 rfl rfl) (mv rfl (bt J (fun q aB => ?_) (fun q aB => ?_))))))
 ·refine lg q (b8 a1x rfl) (lg q (l8 a5V rfl m0 ad rfl) (lg q (k9 underlying24 rfl (ae.mono (I.trans aT))) (lg q (R9 rfl rfl) (lv (j3 rfl q rfl) (av rfl (nq (i9 ?_)))))))
  cases oi aB
  exact ey results55 ⟨aS, rfl, ad.s⟩
 refine lu q (lu q (lu q (lu q (lv (F7 rfl q rfl) (av rfl (nq (i9 ?_)))))))
 cases oi aB
 exact ey results55 ⟨aS, rfl, ad.s⟩

theorem a9e {q0 : k6} {r : Bool} (hS : SH w K [] w K []) (Y : q0.length ≤ maxLen) (hm : a1b F q0 = some r) :
  Calls prog 220 #[sv q0] w (R_b w K r) := by
 rw [a1b] at hm
 refine ci func220 rfl ntmps220 (sr (lv (M7 rfl) (P6 (lv (L3 rfl) (nq ?_)))))
 obtain ⟨A, B, c⟩ := ob hm
 refine j4 (IE A w K [] K [(0, sv q0)] []) ?_ ?_
 ·refine i5 ?_
  obtain ⟨aa, C, o⟩ := ob B
  refine qw (fun (d : Int) => IW w K [] K [(0, sv q0), (3, V6 d)] [] (d9 d)) C ⟨K, rfl, hS, kr, I0⟩ ?_
  rintro d _ ab ac D q ⟨f, rfl, i, s, ad⟩
  refine k8 (sr (mv rfl (mv rfl (lv (F1 underlying9 rfl) (lv (n8 rfl rfl) (nq (B5 D rfl (fun G k => ?_) (fun G k => ?_))))))))
  ·refine i6 (qs (i5 (k8 ?_)))
   obtain ⟨H, I, J⟩ := ob k
   refine j4 (IV w K [] f [(0, sv q0), (3, V6 d), (19, .bool H)] []) ?_ ?_
   ·refine i7 (mv rfl (mv rfl ?_))
    obtain ⟨ae, O, R⟩ := ob I
    refine lv (G8 underlying9 rfl rfl O) (lv (b7I (b := (32 : UInt8)) rfl rfl) (mv rfl (bt R (fun a l => ?_) (fun a l => ?_))))
    ·refine lu a (lu a (lu a (lu a (lv (K5 rfl a rfl) (d7 ?_)))))
     cases oi l
     exact qd ⟨f, rfl, i, kr⟩
    refine lg a (d6 rfl) (lg a (d6 rfl) ?_)
    obtain ⟨af, S, T⟩ := ob l
    refine lg a (G8 underlying9 rfl rfl S) (lg a (b7H (b := (126 : UInt8)) rfl rfl) (lv (j9 rfl a rfl) (d7 ?_)))
    cases oi T
    exact qd ⟨f, rfl, i, kr⟩
   rintro _ ag ⟨x, rfl, y, U⟩
   refine j6 (B5 J rfl (fun V m => ?_) (fun V m => ?_))
   ·refine sr (lv (M7 rfl) (nq (i9 (d8 (c9 (c9 ?_))))))
    cases oi m
    cases q _ rfl
    refine d8 (c9 ?_)
    cases oi o
    refine c9 ?_
    cases oi c
    exact ey results220 ⟨x, rfl, y⟩
   refine i6 (o0 (j6 (i7 (mv rfl (lv (s6 rfl rfl) (av rfl (d7 ?_)))))))
   cases oi m
   exact qd ⟨_, rfl, x, rfl, y, (s.trans U), (l9 _)⟩
  refine q7 (d4 (d4 ?_))
  cases oi k
  cases q _ rfl
  refine j5 ?_
  cases oi o
  exact qd ⟨_, f, rfl, rfl, i, s⟩
 rintro _ w8 ⟨s5, W, rfl, rfl, X, aj⟩
 have c := C8 c
 refine qr (mv rfl (lv (F1 underlying9 rfl) (lv (R9 rfl rfl) (av rfl (nq (i9 ?_))))))
 cases oi c
 exact ey results220 ⟨W, rfl, X⟩

theorem b03 {q0 : s7} {r : Bool} (hS : SH w K [] w K []) (aJ : d9 q0.Id) (G : b7 F3 K A a b q0.Fields) (D : b7 G5 K B c d q0.Nums) (hm : a2v F q0 = some r) :
  Calls prog 172 #[.agg #[V6 q0.Id, V3 A a b, V3 B c d]] w (R_b w K r) := by
 rw [a2v] at hm
 refine ci func172 rfl ntmps172 (sr (bx rfl hS fun k da aK => ?_))
 have aL : SH _ _ _ _ _ [q8 k [V6 q0.Id, V3 A a b, V3 B c d] 54] := aK
 refine lv (M7 rfl) (P6 (lv (L3 rfl) (nq ?_)))
 obtain ⟨aM, aN, J⟩ := ob hm
 refine j4 (IE aM w K [] K [(1, pt k)] [q8 k [V6 q0.Id, V3 A a b, V3 B c d] 54]) ?_ ?_
 ·refine i5 ?_
  obtain ⟨db, aO, ap⟩ := ob aN
  refine qw (fun (O : Int) => IW w K [] K [(1, pt k), (3, V6 O)] [q8 k [V6 q0.Id, V3 A a b, V3 B c d] 54] (d9 O)) aO ⟨K, rfl, aL, kr, I0⟩ ?_
  rintro O _ dc dd aP aq ⟨ar, rfl, H, I, de⟩
  refine k8 (sr (mv rfl (fl W0 rfl a3Y m0 H rfl (lv (k9 underlying51 rfl (G.mono I)) (lv (n8 rfl rfl) (nq (B5 aP rfl (fun aQ W => ?_) (fun aQ W => ?_))))))))
  ·refine i6 (qs (i5 (sr (fl W0 rfl a3Y m0 H rfl (mv rfl ?_)))))
   obtain ⟨R, aR, aS⟩ := ob W
   refine li underlying51 M9 (G.mono I) aR fun aT aU df aV aW => ?_
   obtain ⟨rfl, aX, aY⟩ := aV
   have aZ : D0 _ aT aU [sv R.Name, sv R.Text] := aW
   refine lv (D4 M9 rfl H aZ rfl) (al M9 H fun ba dg bb => ?_)
   have bc : SH _ _ _ _ _ [q8 ba [sv [], sv []] 158, _] := bb
   refine lw [sv R.Name, sv R.Text] M9 bc fun dh bd => (ns ?_)
   obtain ⟨be, bf, bg⟩ := ob aS
   refine j4 (IV w K [] ar [(1, pt k), (3, V6 O), (43, .bool be)] [q8 k [V6 q0.Id, V3 A a b, V3 B c d] 54]) ?_ ?_
   ·refine C2 mixed (by kernel_rfl) bd (kv (b8 a2l rfl) (kh (u2 D9 rfl m0 rfl) ?_))
    obtain ⟨di, bh, bi⟩ := ob bf
    refine kc a6e (fun _ _ bj dj => (D6 F) bj.enter0 aX bh) (kv (y4 rfl) (km rfl (bt bi (fun q X => ?_) (fun q X => ?_))))
    ·refine kn q (kn q (kn q (kn q (kv (K5 rfl q rfl) (km rfl (qv rfl rfl rfl rfl (qv rfl rfl rfl rfl (qv rfl rfl rfl rfl ?_))))))))
     iterate 10 refine ku ?_
     refine qv rfl rfl rfl rfl (kv (K5 rfl rfl rfl) (z7 ?_))
     rintro dk ⟨bk, bl, bm⟩
     cases oi X
     exact qd ⟨bk, rfl, bl.s, bm⟩
    refine kg q (b8 a6f rfl) (kgh q (u2 D9 rfl m0 rfl) ?_)
    obtain ⟨dl, bn, bo⟩ := ob X
    refine kcg q b9n (fun _ _ bp dm => (a9e F) bp.enter0 aY bn) (kg q (y4 rfl) (kv (j9 rfl q rfl) (km rfl (bt bo (fun l Y => ?_) (fun l Y => ?_)))))
    ·refine kn l (kn l (kn l ?_))
     iterate 10 refine ku ?_
     refine kn l (kv (K5 rfl l rfl) (z7 ?_))
     rintro dn ⟨bq, br, bs⟩
     cases oi Y
     exact qd ⟨bq, rfl, br.s, bs⟩
    refine kg l (d6 rfl) (kg l (E5 rfl rfl) (kg l (d6 rfl) (bt Y (fun i aa => ?_) (fun i aa => ?_))))
    ·refine kg i (b8 a2l rfl) (kgh i (u2 D9 rfl m0 rfl) (kg i (b8 W0 rfl) (kgh i (u2 a3Y rfl m1 rfl) (kg i (d6 rfl) (kg i (F2 rfl rfl) ?_)))))
     obtain ⟨au, bu, bv⟩ := ob aa
     refine B4 (t := F3) (wg rfl rfl i) rfl underlying51 M9 rfl rfl (G.mono I) bu fun bz bA dp bB bC => ?_
     obtain ⟨rfl, dq, dr⟩ := bB
     have bD : D0 _ bz bA [sv au.Name, sv au.Text] := bC
     refine kg i (b8 a2l rfl) (kgh i (z8 D9 rfl (bD 0 _ rfl)) (kg i (b08 rfl rfl) (kg l (j3 rfl i rfl) (kv (j9 rfl l rfl) (z7 ?_)))))
     rintro ds ⟨bE, bF, bG⟩
     cases oi bv
     exact qd ⟨bE, rfl, bF.s, bG⟩
    iterate 10 refine kn i ?_
    refine kg l (F7 rfl i rfl) (kv (j9 rfl l rfl) (z7 ?_))
    rintro dt ⟨bH, bI, bJ⟩
    cases oi aa
    exact qd ⟨bH, rfl, bI.s, bJ⟩
   rintro _ du ⟨aw, rfl, ax, bK⟩
   refine j6 (B5 bg rfl (fun bL ab => ?_) (fun bL ab => ?_))
   ·refine sr (lv (M7 rfl) (nq (i9 (d8 (c9 (c9 ?_))))))
    cases oi ab
    cases aq _ rfl
    refine d8 (c9 ?_)
    cases oi ap
    refine c9 ?_
    cases oi J
    exact ey results172 ⟨aw, rfl, ax.s⟩
   refine i6 (o0 (j6 (i7 (mv rfl (lv (s6 rfl rfl) (av rfl (d7 ?_)))))))
   cases oi ab
   exact qd ⟨_, rfl, aw, rfl, ax, (I.trans bK), (l9 _)⟩
  refine q7 (d4 (d4 ?_))
  cases oi W
  cases aq _ rfl
  refine j5 ?_
  cases oi ap
  exact qd ⟨_, ar, rfl, rfl, H, I⟩
 rintro _ dv ⟨dw, ac, rfl, rfl, bM, y⟩
 have J := C8 J
 refine qs (sr (lv (L3 rfl) (nq ?_)))
 obtain ⟨bN, bO, S⟩ := ob J
 refine j4 (IE bN w K [] ac [(1, pt k)] [q8 k [V6 q0.Id, V3 A a b, V3 B c d] 54]) ?_ ?_
 ·refine i5 ?_
  obtain ⟨dx, bP, ay⟩ := ob bO
  refine qw (fun (T : Int) => IW w K [] ac [(1, pt k), (5, V6 T)] [q8 k [V6 q0.Id, V3 A a b, V3 B c d] 54] (d9 T)) bP ⟨ac, rfl, bM, kr, I0⟩ ?_
  rintro T _ dy dz bQ az ⟨aA, rfl, ad, C, dA⟩
  refine k8 (sr (mv rfl (fl X8 rfl a4e m0 ad rfl (lv (k9 underlying52 rfl (D.mono (y.trans C))) (lv (n8 rfl rfl) (nq (B5 bQ rfl (fun bR ae => ?_) (fun bR ae => ?_))))))))
  ·refine i6 (qs (i5 (k8 ?_)))
   obtain ⟨bS, bT, bU⟩ := ob ae
   refine j4 (IV w K [] aA [(1, pt k), (5, V6 T), (88, .bool bS)] [q8 k [V6 q0.Id, V3 A a b, V3 B c d] 54]) ?_ ?_
   ·refine C2 mixed (by kernel_rfl) ad (kv (b8 X8 rfl) (kh (u2 a4e rfl m0 rfl) (km rfl ?_)))
    obtain ⟨aB, bV, bW⟩ := ob bT
    refine ki underlying52 P9 (D.mono (y.trans C)) bV fun bX bY dB bZ ca => ?_
    obtain ⟨rfl, cb, dC⟩ := bZ
    have cc : D0 _ bX bY [sv aB.Name, V6 aB.Num] := ca
    refine kv (b8 a3l rfl) (kh (z8 D9 rfl (cc 0 _ rfl)) ?_)
    obtain ⟨dD, cd, ce⟩ := ob bW
    refine kc a6e (fun _ _ cf dE => (D6 F) cf.enter0 cb cd) (kv (y4 rfl) (km rfl (bt ce (fun o af => ?_) (fun o af => ?_))))
    ·iterate 8 refine kn o ?_
     refine kv (K5 rfl o rfl) (km rfl (qv rfl rfl rfl rfl (qv rfl rfl rfl rfl (qv rfl rfl rfl rfl ?_))))
     iterate 14 refine ku ?_
     refine qv rfl rfl rfl rfl (kv (K5 rfl rfl rfl) (z7 ?_))
     rintro dF ⟨cg, ch, cj⟩
     cases oi af
     exact qd ⟨cg, rfl, ch, cj⟩
    refine kg o (b8 X8 rfl) (kgh o (u2 a4e rfl m0 rfl) (kg o (d6 rfl) ?_))
    obtain ⟨aC, ck, cl⟩ := ob af
    refine B4 (t := G5) (wg rfl rfl o) rfl underlying52 P9 rfl rfl (D.mono (y.trans C)) ck fun cm cn dG cp cq => ?_
    obtain ⟨rfl, dH, cr⟩ := cp
    have cs : D0 _ cm cn [sv aC.Name, V6 aC.Num] := cq
    refine kg o (b8 a8y rfl) (kgh o (z8 D8 rfl (cs 1 _ rfl)) ?_)
    obtain ⟨dI, ct, cu⟩ := ob cl
    refine kcg o a4B (fun _ _ cv dJ => (F0 F) cv.enter0 cr I0 (by decide : d9 999999999) ct) (kg o (y4 rfl) (kv (j9 rfl o rfl) (km rfl (bt cu (fun m ag => ?_) (fun m ag => ?_)))))
    ·refine kn m (kn m (kn m ?_))
     iterate 14 refine ku ?_
     refine kn m (kv (K5 rfl m rfl) (z7 ?_))
     rintro dK ⟨cw, cx, cy⟩
     cases oi ag
     exact qd ⟨cw, rfl, cx, cy⟩
    refine kg m (d6 rfl) (kg m (E5 rfl rfl) (kg m (d6 rfl) (bt ag (fun f ah => ?_) (fun f ah => ?_))))
    ·refine kg f (b8 X8 rfl) (kgh f (u2 a4e rfl m0 rfl) (kg f (d6 rfl) ?_))
     obtain ⟨aD, cz, cA⟩ := ob ah
     refine B4 (t := G5) (wg rfl rfl f) rfl underlying52 P9 rfl rfl (D.mono (y.trans C)) cz fun cB cC dL cD cE => ?_
     obtain ⟨rfl, dM, dN⟩ := cD
     have cF : D0 _ cB cC [sv aD.Name, V6 aD.Num] := cE
     refine kg f (b8 a3l rfl) (kgh f (z8 D9 rfl (cF 0 _ rfl)) (kg f (b8 X8 rfl) (kgh f (u2 a4e rfl m0 rfl) (kg f (d6 rfl) (kg f (F2 rfl rfl) ?_)))))
     obtain ⟨aE, cG, cH⟩ := ob cA
     refine B4 (t := G5) (wg rfl rfl f) rfl underlying52 P9 rfl rfl (D.mono (y.trans C)) cG fun cI cJ dO cK cL => ?_
     obtain ⟨rfl, dP, dQ⟩ := cK
     have cM : D0 _ cI cJ [sv aE.Name, V6 aE.Num] := cL
     refine kg f (b8 a3l rfl) (kgh f (z8 D9 rfl (cM 0 _ rfl)) (kg f (b08 rfl rfl) (kg m (j3 rfl f rfl) (kv (j9 rfl m rfl) (z7 ?_)))))
     rintro dR ⟨cN, cO, cP⟩
     cases oi cH
     exact qd ⟨cN, rfl, cO, cP⟩
    iterate 14 refine kn f ?_
    refine kg m (F7 rfl f rfl) (kv (j9 rfl m rfl) (z7 ?_))
    rintro dS ⟨cQ, cR, cS⟩
    cases oi ah
    exact qd ⟨cQ, rfl, cR, cS⟩
   rintro _ dT ⟨aF, rfl, aG, cT⟩
   refine j6 (B5 bU rfl (fun cU ai => ?_) (fun cU ai => ?_))
   ·refine sr (lv (M7 rfl) (nq (i9 (d8 (c9 (c9 ?_))))))
    cases oi ai
    cases az _ rfl
    refine d8 (c9 ?_)
    cases oi ay
    refine c9 ?_
    cases oi S
    exact ey results172 ⟨aF, rfl, aG.s⟩
   refine i6 (o0 (j6 (i7 (mv rfl (lv (s6 rfl rfl) (av rfl (d7 ?_)))))))
   cases oi ai
   exact qd ⟨_, rfl, aF, rfl, aG, (C.trans cT), (l9 _)⟩
  refine q7 (d4 (d4 ?_))
  cases oi ae
  cases az _ rfl
  refine j5 ?_
  cases oi ay
  exact qd ⟨_, aA, rfl, rfl, ad, C⟩
 rintro _ dU ⟨dV, dW, rfl, rfl, aj, ak⟩
 have S := C8 S
 refine qr (fl X7 rfl D8 m0 aj rfl ?_)
 obtain ⟨dX, cV, cW⟩ := ob S
 refine lk a4B (F0 F aj.enter0 aJ (by decide : d9 1) (by decide : d9 9999) cV) ?_
 rintro dY dZ ⟨cX, rfl, U⟩
 have V := (aj.c0 U).t1
 refine mv rfl (bt cW (fun s am => ?_) (fun s am => ?_))
 ·refine lg s (b8 W0 rfl) (lg s (l8 a3Y rfl m0 V rfl) (lg s (k9 underlying51 rfl (G.mono ((y.trans ak).trans U.le))) ?_))
  obtain ⟨ea, cY, cZ⟩ := ob am
  refine x9 (wg rfl rfl s) rfl (x8 (vs := [V6 (q0.Fields.length : Int), V6 0, V6 3]) a4B rfl) (F0 F V.enter0 (a3o (b7.max (G.mono ((y.trans ak).trans U.le)))) I0 (by decide : d9 3) cY) ?_
  rintro eb ec ⟨aH, rfl, aI⟩
  refine ⟨_, rfl, ?_⟩
  have an := (V.c0 aI).t1
  refine lv (j3 rfl s rfl) (mv rfl (bt cZ (fun x ao => ?_) (fun x ao => ?_)))
  ·refine lg x (b8 X8 rfl) (lg x (l8 a4e rfl m0 an rfl) (lg x (k9 underlying52 rfl (b7.mono (((y.trans ak).trans U.le).trans aI.le) D)) (lg x (R9 rfl rfl) (lv (j3 rfl x rfl) (av rfl (nq (i9 ?_)))))))
   cases oi ao
   exact ey results172 ⟨aH, rfl, an.s⟩
  refine lu x (lu x (lu x (lu x (lv (F7 rfl x rfl) (av rfl (nq (i9 ?_)))))))
  cases oi ao
  exact ey results172 ⟨aH, rfl, an.s⟩
 refine lu s (lu s (lu s (lu s (lv (F7 rfl s rfl) (mv rfl (lu rfl (lu rfl (lu rfl (lu rfl ?_)))))))))
 refine lv (F7 rfl rfl rfl) (av rfl (nq (i9 ?_)))
 cases oi am
 exact ey results172 ⟨cX, rfl, V.s⟩

theorem a9j {q0 : List s7} {r : Bool} (hS : SH w K [] w K []) (i : b7 E1 K A a b q0) (hm : a1g F q0 = some r) :
  Calls prog 127 #[V3 A a b] w (R_b w K r) := by
 rw [a1g] at hm
 refine ci func127 rfl ntmps127 (sr (lv (M7 rfl) (P6 (lv (L3 rfl) (nq ?_)))))
 obtain ⟨I, J, k⟩ := ob hm
 refine j4 (IE I w K [] K [(0, V3 A a b)] []) ?_ ?_
 ·refine i5 ?_
  obtain ⟨bk, O, x⟩ := ob J
  refine qw (fun (l : Int) => IW w K [] K [(0, V3 A a b), (3, V6 l)] [] (d9 l)) O ⟨K, rfl, hS, kr, I0⟩ ?_
  rintro l _ bl bm R y ⟨B, rfl, C, f, bn⟩
  refine k8 (sr (mv rfl (mv rfl (lv (k9 underlying35 rfl (i.mono f)) (lv (n8 rfl rfl) (nq (B5 R rfl (fun S m => ?_) (fun S m => ?_))))))))
  ·refine i6 (qs (i5 (k8 ?_)))
   obtain ⟨T, U, V⟩ := ob m
   refine j4 (IV w K [] B [(0, V3 A a b), (3, V6 l), (33, .bool T)] []) ?_ ?_
   ·refine C2 mixed (by kernel_rfl) C (km rfl (km rfl ?_))
    obtain ⟨W, X, Y⟩ := ob U
    refine ki underlying35 C0 (i.mono f) X fun aa ab bo ac ad => ?_
    obtain ⟨ae, af, ag, ah, ai, aj, rfl, ak, al, am⟩ := ac
    have an : D0 _ aa ab [V6 W.Id, V3 ae af ag, V3 ah ai aj] := ad
    refine kh (a3e C0 rfl an rfl) ?_
    obtain ⟨bp, ao, ap⟩ := ob Y
    refine kc b88 (fun _ _ aq D => (b03 F) aq.enter0 ak (al.mono D) (am.mono D) ao) (kv (y4 rfl) (km rfl (bt ap (fun d o => ?_) (fun d o => ?_))))
    ·refine kn d (kn d (kn d ?_))
     iterate 12 refine ku ?_
     refine kn d (kv (K5 rfl d rfl) (z7 ?_))
     rintro bq ⟨ar, au, aw⟩
     cases oi o
     exact qd ⟨ar, rfl, au, aw⟩
    refine kg d (d6 rfl) (kg d (E5 rfl rfl) (kg d (d6 rfl) (bt o (fun c q => ?_) (fun c q => ?_))))
    ·refine kg c (d6 rfl) (kg c (d6 rfl) ?_)
     obtain ⟨ax, ay, az⟩ := ob q
     refine B4 (t := E1) (wg rfl rfl c) rfl underlying35 C0 rfl rfl (i.mono f) ay fun aA aB br aC aD => ?_
     obtain ⟨aE, aF, aG, aH, aI, aJ, rfl, bs, bu, bv⟩ := aC
     have aK : D0 _ aA aB [V6 ax.Id, V3 aE aF aG, V3 aH aI aJ] := aD
     refine kg c (b8 X7 rfl) (kgh c (z8 D8 rfl (aK 0 _ rfl)) (kg c (d6 rfl) (kg c (d6 rfl) (kg c (F2 rfl rfl) ?_))))
     obtain ⟨aL, aM, aN⟩ := ob az
     refine B4 (t := E1) (wg rfl rfl c) rfl underlying35 C0 rfl rfl (i.mono f) aM fun aO aP bx aQ aR => ?_
     obtain ⟨aS, aT, aU, aV, aW, aX, rfl, bz, bA, bB⟩ := aQ
     have aY : D0 _ aO aP [V6 aL.Id, V3 aS aT aU, V3 aV aW aX] := aR
     refine kg c (b8 X7 rfl) (kgh c (z8 D8 rfl (aY 0 _ rfl)) (kg c (R9 rfl rfl) (kg d (j3 rfl c rfl) (kv (j9 rfl d rfl) (z7 ?_)))))
     rintro bC ⟨aZ, ba, bb⟩
     cases oi aN
     exact qd ⟨aZ, rfl, ba, bb⟩
    iterate 12 refine kn c ?_
    refine kg d (F7 rfl c rfl) (kv (j9 rfl d rfl) (z7 ?_))
    rintro bD ⟨bc, bd, be⟩
    cases oi q
    exact qd ⟨bc, rfl, bd, be⟩
   rintro _ w32 ⟨G, rfl, H, bf⟩
   refine j6 (B5 V rfl (fun bg s => ?_) (fun bg s => ?_))
   ·refine sr (lv (M7 rfl) (nq (i9 (d8 (c9 (c9 ?_))))))
    cases oi s
    cases y _ rfl
    refine d8 (c9 ?_)
    cases oi x
    refine c9 ?_
    cases oi k
    exact ey results127 ⟨G, rfl, H⟩
   refine i6 (o0 (j6 (i7 (mv rfl (lv (s6 rfl rfl) (av rfl (d7 ?_)))))))
   cases oi s
   exact qd ⟨_, rfl, G, rfl, H, (f.trans bf), (l9 _)⟩
  refine q7 (d4 (d4 ?_))
  cases oi m
  cases y _ rfl
  refine j5 ?_
  cases oi x
  exact qd ⟨_, B, rfl, rfl, C, f⟩
 rintro _ bE ⟨s8, K9, rfl, rfl, bi, bj⟩
 have k := C8 k
 refine qr (mv rfl (lv (k9 underlying35 rfl (i.mono bj)) (lv (R9 rfl rfl) (av rfl (nq (i9 ?_))))))
 cases oi k
 exact ey results127 ⟨K9, rfl, bi⟩

theorem a8h {q0 : k6} {r : (List S4)} (hS : SH w K [] w K []) (bY : q0.length ≤ maxLen) (hm : a0z F q0 = some r) :
  Calls prog 230 #[sv q0] w fun e w' => ∃ a_1 n_2 c_3 K', e = .returned (V3 a_1 n_2 c_3) ∧ SH w K [] w' K' [tail (V3 a_1 n_2 c_3) 169 4] ∧ b7 a3E K' a_1 n_2 c_3 r := by
 rw [a0z] at hm
 refine ci func230 rfl ntmps230 (sr (lv (r_n rfl) (nr (b0 a3E underlying166 a1Z hS fun a2 w3 W ca aB aC => (av rfl (P6 (lv (L3 rfl) (nq ?_))))))))
 obtain ⟨o8, h9, aF⟩ := ob hm
 refine j4 (fun E' w' => ∃ B C D G, E' = [(3, V3 B C D)] ∧ SH w K [] w' G [tail (V3 B C D) 169 4] ∧ H6 W G ∧ b7 a3E G B C D o8) ?_ ?_
 ·refine i5 ?_
  obtain ⟨cb, aG, aH⟩ := ob h9
  refine qw (fun (a : (List S4) × Int) E' w' => ∃ c d f H, E' = [(0, sv q0), (3, V3 c d f), (4, V6 a.2)] ∧ SH w K [] w' H [tail (V3 c d f) 169 4] ∧ H6 W H ∧ b7 a3E H c d f a.1 ∧ d9 a.2) aG ⟨a2, 0, 0, W, rfl, aC, kr, aB, I0⟩ ?_
  rintro a _ cc cd aI aJ ⟨c, d, f, H, rfl, ap, X, I, aq⟩
  refine k8 (sr (mv rfl (mv rfl (lv (F1 underlying9 rfl) (lv (n8 rfl rfl) (nq (B5 aI rfl (fun aK Y => ?_) (fun aK Y => ?_))))))))
  ·refine i6 (qs (i5 (sr (b0 tU8 underlying22 tf5 ap fun aL ce aa s aM aN => (av rfl (nr (mv rfl (av rfl (ns ?_)))))))))
   obtain ⟨k, aO, aP⟩ := ob Y
   refine j4 (fun E' w' => ∃ J O R l, E' = [(0, sv q0), (3, V3 c d f), (4, V6 k.1), (5, V3 J O R), (6, V6 a.2)] ∧ SH w K [] w' l [tail (V3 c d f) 169 4, tail (V3 J O R) 5 1] ∧ H6 aa l ∧ d9 k.1 ∧ b7 tU8 l J O R k.2) ?_ ?_
   ·refine i5 ?_
    obtain ⟨cf, aQ, aR⟩ := ob aO
    refine qw (fun (S : Int × (List UInt8)) E' w' => ∃ m o q x, E' = [(0, sv q0), (3, V3 c d f), (4, V6 S.1), (5, V3 m o q), (6, V6 a.2)] ∧ SH w K [] w' x [tail (V3 c d f) 169 4, tail (V3 m o q) 5 1] ∧ H6 aa x ∧ d9 S.1 ∧ b7 tU8 x m o q S.2) aQ ⟨aL, 0, 0, aa, rfl, aN.f1, kr, aq, aM⟩ ?_
    rintro S _ cg ch aS aT ⟨m, o, q, x, rfl, ab, ar, aU, au⟩
    refine k8 (k8 ?_)
    obtain ⟨aV, aW, aX⟩ := ob aS
    refine j4 (IV w K [] x [(0, sv q0), (3, V3 c d f), (4, V6 S.1), (5, V3 m o q), (6, V6 a.2), (26, .bool aV)] [tail (V3 c d f) 169 4, tail (V3 m o q) 5 1]) ?_ ?_
    ·refine i7 (mv rfl (mv rfl (lv (F1 underlying9 rfl) (lv (n8 rfl rfl) (mv rfl (bt aW (fun i ac => ?_) (fun i ac => ?_)))))))
     ·refine lg i (d6 rfl) (lg i (d6 rfl) ?_)
      obtain ⟨aY, aZ, ba⟩ := ob ac
      refine lg i (G8 underlying9 rfl rfl aZ) ?_
      obtain ⟨cj, bb, bc⟩ := ob ba
      refine x9 (wg rfl rfl i) rfl (x8 (vs := [iv8 aY]) b5o rfl) (a29 F ab.enter0  bb) ?_
      rintro ck cl ⟨bd, rfl, aw⟩
      refine ⟨_, rfl, ?_⟩
      have be := (ab.c0 aw).t2
      refine lg i (a44 (b := (0 : UInt8)) rfl rfl) (lv (j3 rfl i rfl) (d7 ?_))
      cases oi bc
      exact qd ⟨bd, rfl, be, aw.le⟩
     iterate 5 refine lu i ?_
     refine lv (F7 rfl i rfl) (d7 ?_)
     cases oi ac
     exact qd ⟨x, rfl, ab, kr⟩
    rintro _ cm ⟨bf, rfl, ad, V⟩
    refine j6 (B5 aX rfl (fun bg ae => ?_) (fun bg ae => ?_))
    ·refine i6 (j6 (i5 (sr (mv rfl (mv rfl (mv rfl ?_))))))
     obtain ⟨cn, bh, bi⟩ := ob ae
     refine lv (G8 underlying9 rfl rfl bh) ?_
     obtain ⟨af, bj, bk⟩ := ob bi
     refine lk b5o (a29 F ad.enter0  bj) ?_
     rintro cp cq ⟨cr, rfl, ag⟩
     have bl := (ad.c0 ag).t2
     refine lb tU8 (iv8 af) [iv8 af] af underlying22 tf5 rfl bl fun ct cu cv ax bm bn => ?_
     obtain ⟨cw, bo, bp⟩ := ob bk
     refine lp underlying22 tf5 (au.mono ((V.trans ag.le).trans ax)) bm bo bn.f2 fun bq br bs cx bu bv bx bz => (av rfl (nq (i7 (mv rfl (lv (s6 rfl rfl) (av rfl (nb ?_)))))))
     cases oi bp
     exact qd ⟨_, rfl, bq, br, bs, bu, rfl, bz.f2.s, ((((ar.trans V).trans ag.le).trans ax).trans bv), (l9 _), bx⟩
    refine q7 (d4 (d4 ?_))
    cases oi ae
    cases aT _ rfl
    refine j5 ?_
    cases oi aR
    exact qd ⟨m, o, q, bf, rfl, ad, (ar.trans V), aU, (au.mono V)⟩
   rintro _ cy ⟨J, O, R, l, rfl, ay, y, bA, ah⟩
   refine qs (sr (mv rfl (lv (k9 underlying22 rfl ah) (lv (E5 rfl rfl) (nq ?_)))))
   obtain ⟨T, bB, bC⟩ := ob aP
   refine j4 (fun E' w' => ∃ ai aj ak U, E' = [(0, sv q0), (3, V3 c d f), (4, V6 k.1), (5, V3 ai aj ak), (6, V6 a.2)] ∧ SH w K [] w' U [tail (V3 c d f) 169 4] ∧ H6 l U ∧ b7 tU8 U ai aj ak T) ?_ ?_
   ·refine B5 bB rfl (fun bD al => ?_) (fun bD al => ?_)
    ·refine i7 (mv rfl ?_)
     obtain ⟨cz, bE, bF⟩ := ob al
     refine b1k (t := tU8) wn rfl underlying22 tf5 rfl rfl ah bE fun bG bH bI bJ => (av rfl (d7 ?_))
     cases oi bF
     exact qd ⟨bG, bH, bI, l, rfl, ay.s, kr, bJ⟩
    refine i6 ?_
    cases oi al
    exact qd ⟨J, O, R, l, rfl, ay.s, kr, ah⟩
   rintro _ cA ⟨ai, aj, ak, U, rfl, am, A, an⟩
   refine qr (mv rfl (lv (k9 underlying22 rfl an) (lv (E5 rfl rfl) (nq (B5 bC rfl (fun bK ao => ?_) (fun bK ao => ?_))))))
   ·refine i7 (mv rfl (mv rfl (lv (b5V underlying22 underlying5 underlying9 rfl an am) (mv rfl (lv (k9 underlying166 rfl (I.mono ((s.trans y).trans A))) (mv rfl (mv rfl (lv (A5 (cs := #[sv T, V6 (a.1.length : Int), V6 a.2, V6 k.1]) b7N a1Z rfl (by kernel_rfl)) (lb a3E (.agg #[sv T, V6 (a.1.length : Int), V6 a.2, V6 k.1]) [sv T, V6 (a.1.length : Int), V6 a.2, V6 k.1] (S4.mk T (a.1.length : Int) a.2 k.1) underlying166 a1Z ⟨rfl, (b7.max an), (a3o (b7.max (I.mono ((s.trans y).trans A)))), aq, bA⟩ am fun cB cC cD az bL bM => ?_)))))))))
    obtain ⟨cE, bN, bO⟩ := ob ao
    refine lp underlying166 a1Z (b7.mono (((s.trans y).trans A).trans az) I) bL bN bM.f1 fun bP bQ bR cF bS bT bU bV => (av rfl (nb (j6 (i7 (mv rfl (lv (s6 rfl rfl) (av rfl (d7 ?_))))))))
    cases oi bO
    exact qd ⟨_, rfl, bP, bQ, bR, bS, rfl, bV.s, (((((X.trans s).trans y).trans A).trans az).trans bT), bU, (l9 _)⟩
   refine i6 (o0 (j6 (i7 (mv rfl (lv (s6 rfl rfl) (av rfl (d7 ?_)))))))
   cases oi ao
   exact qd ⟨_, rfl, c, d, f, U, rfl, am, (((X.trans s).trans y).trans A), (I.mono ((s.trans y).trans A)), (l9 _)⟩
  refine q7 (d4 (d4 ?_))
  cases oi Y
  cases aJ _ rfl
  refine j5 ?_
  cases oi aH
  exact qd ⟨c, d, f, H, rfl, ap, X, I⟩
 rintro _ cG ⟨B, C, D, G, rfl, bW, cH, bX⟩
 refine qr (mv rfl (av rfl (nq (i9 ?_))))
 cases oi aF
 exact ey results230 ⟨B, C, D, G, rfl, bW, bX⟩

theorem a8i {q0 : q9} {q1 : k6} {r : (List y9)} (hS : SH w K [] w K []) (ac : b7 B8 K A a b q0.Stops) (bQ : b7 I4 K B c d q0.Syns) (ak : q1.length ≤ maxLen) (hm : a0A F q0 q1 = some r) :
  Calls prog 183 #[.agg #[V3 A a b, V3 B c d], sv q1] w fun e w' => ∃ a_1 n_2 c_3 K', e = .returned (V3 a_1 n_2 c_3) ∧ SH w K [] w' K' [tail (V3 a_1 n_2 c_3) 117 2] ∧ b7 J7 K' a_1 n_2 c_3 r := by
 rw [a0A] at hm
 refine ci func183 rfl ntmps183 (sr (bx rfl hS fun s bR al => ?_))
 have am : SH _ _ _ _ _ [q8 s [V3 A a b, V3 B c d] 26] := al
 refine lv (r_n rfl) (nr (b0 J7 underlying114 F9 am fun an bS bT ad ao ae => (av rfl (nr (mv rfl ?_)))))
 obtain ⟨bU, ap, aq⟩ := ob hm
 refine lk b9r (a8h F ae.enter0 ak ap) ?_
 rintro bV bW ⟨af, ag, ah, V, rfl, O, R⟩
 have ar := (ae.c0 O).t3
 refine av rfl (P6 (lv (L3 rfl) (nq ?_)))
 obtain ⟨au, aw, ax⟩ := ob aq
 refine j4 (fun E' w' => ∃ x y C D, E' = [(5, V3 x y C)] ∧ SH w K [] w' D [tail (V3 x y C) 117 2] ∧ H6 V D ∧ b7 J7 D x y C au) ?_ ?_
 ·refine i5 ?_
  obtain ⟨bX, ay, az⟩ := ob aw
  have aA := ar.f1.f2.sb (sk (sk (sd sz)))
  refine qw (fun (G : (List y9) × Int) E' w' => ∃ l m o H, E' = [(2, pt s), (5, V3 l m o), (6, V3 af ag ah), (7, V6 G.2)] ∧ SH w K [] w' H [q8 s [V3 A a b, V3 B c d] 26, tail (V3 l m o) 117 2] ∧ H6 V H ∧ b7 J7 H l m o G.1 ∧ d9 G.2) ay ⟨an, 0, 0, V, rfl, aA, kr, (ao.mono O.le), I0⟩ ?_
  rintro G _ bY bZ aB aC ⟨l, m, o, H, rfl, S, f, W, ca⟩
  refine k8 (sr (mv rfl (mv rfl (lv (k9 underlying166 rfl (R.mono f)) (lv (n8 rfl rfl) (nq (B5 aB rfl (fun aD X => ?_) (fun aD X => ?_))))))))
  ·refine i6 (qs (i5 (sr (mv rfl (mv rfl ?_)))))
   obtain ⟨T, aE, aF⟩ := ob X
   refine li underlying166 a1Z (R.mono f) aE fun aG aH cb aI aJ => ?_
   obtain ⟨rfl, aK, cc, cd, ce⟩ := aI
   have aL : D0 _ aG aH [sv T.Text, V6 T.At, V6 T.From, V6 T.To] := aJ
   refine fa a6g rfl (lv (u0 D9 rfl S (aL 0 _ rfl)) ?_)
   obtain ⟨I, aM, aN⟩ := ob aF
   refine lk b5k (a0L F S.enter0 aK aM) ?_
   rintro cf cg ⟨aO, rfl, i, ai⟩
   have aP := (S.c0 i).t2
   refine av rfl (ns ?_)
   obtain ⟨aQ, aR, aS⟩ := ob aN
   refine j4 (IV w K [] aO [(2, pt s), (5, V3 l m o), (6, V3 af ag ah), (7, V6 G.2), (8, sv I), (39, .bool aQ)] [q8 s [V3 A a b, V3 B c d] 26, tail (V3 l m o) 117 2]) ?_ ?_
   ·refine C2 mixed (by kernel_rfl) aP (kv (b8 a1w rfl) (kh (u2 O5 rfl m0 rfl) (km rfl (km rfl ?_))))
    obtain ⟨U, aT, aU⟩ := ob aR
    refine ki underlying166 a1Z (R.mono (f.trans i.le)) aT fun aV aW ch aX aY => ?_
    obtain ⟨rfl, aZ, cj, ck, cl⟩ := aX
    have ba : D0 _ aV aW [sv U.Text, V6 U.At, V6 U.From, V6 U.To] := aY
    refine kv (b8 a6g rfl) (kh (z8 D9 rfl (ba 0 _ rfl)) ?_)
    obtain ⟨cm, bb, bc⟩ := ob aU
    refine kc b70 (fun _ _ bd be => (a3A F) bd.enter0 (b7.mono ((((ad.trans O.le).trans f).trans i.le).trans be) ac) aZ bb) (kv (y4 rfl) (km rfl (bt bc (fun k Y => ?_) (fun k Y => ?_))))
    ·refine kg k (b8 a1w rfl) (kgh k (u2 O5 rfl m0 rfl) (kg k (d6 rfl) ?_))
     obtain ⟨cn, bf, bg⟩ := ob Y
     refine kcg k b70 (fun _ _ bh bi => (a3A F) bh.enter0 (b7.mono ((((ad.trans O.le).trans f).trans i.le).trans bi) ac) ai bf) (kg k (y4 rfl) (kv (j3 rfl k rfl) (z7 ?_)))
     rintro cp ⟨bj, bk, bl⟩
     cases oi bg
     exact qd ⟨bj, rfl, bk, bl⟩
    iterate 5 refine kn k ?_
    refine kv (F7 rfl k rfl) (z7 ?_)
    rintro cq ⟨bm, bn, bo⟩
    cases oi Y
    exact qd ⟨bm, rfl, bn, bo⟩
   rintro _ cr ⟨bp, rfl, aa, J⟩
   refine j6 (B5 aS rfl (fun bq ab => ?_) (fun bq ab => ?_))
   ·refine i7 (mv rfl (mv rfl (mv rfl (mv rfl ?_))))
    obtain ⟨q, br, bs⟩ := ob ab
    refine li underlying166 a1Z (R.mono ((f.trans i.le).trans J)) br fun bu bv ct bz bA => ?_
    obtain ⟨rfl, cu, bB, cv, cw⟩ := bz
    have bC : D0 _ bu bv [sv q.Text, V6 q.At, V6 q.From, V6 q.To] := bA
    refine fa b3s rfl (lv (u0 D8 rfl aa (bC 1 _ rfl)) (lv (A5 (cs := #[sv I, V6 q.At]) b3U F9 rfl (by kernel_rfl)) (lb J7 (.agg #[sv I, V6 q.At]) [sv I, V6 q.At] (y9.mk I q.At) underlying114 F9 ⟨rfl, ai, bB⟩ aa fun cx cy cz aj bD bE => ?_)))
    obtain ⟨cA, bF, bG⟩ := ob bs
    refine lp underlying114 F9 (W.mono ((i.le.trans J).trans aj)) bD bF bE.f2 fun bH bI bJ cB bK bL bM bN => (av rfl (nb (j6 (i7 (mv rfl (lv (s6 rfl rfl) (av rfl (d7 ?_))))))))
    cases oi bG
    exact qd ⟨_, rfl, bH, bI, bJ, bK, rfl, bN.f2.s, ((((f.trans i.le).trans J).trans aj).trans bL), bM, (l9 _)⟩
   refine i6 (o0 (j6 (i7 (mv rfl (lv (s6 rfl rfl) (av rfl (d7 ?_)))))))
   cases oi ab
   exact qd ⟨_, rfl, l, m, o, bp, rfl, aa, ((f.trans i.le).trans J), (W.mono (i.le.trans J)), (l9 _)⟩
  refine q7 (d4 (d4 ?_))
  cases oi X
  cases aC _ rfl
  refine j5 ?_
  cases oi az
  exact qd ⟨l, m, o, H, rfl, S.s, f, W⟩
 rintro _ cC ⟨x, y, C, D, rfl, bO, cD, bP⟩
 refine qr (mv rfl (av rfl (nq (i9 ?_))))
 cases oi ax
 exact ey results183 ⟨x, y, C, D, rfl, bO, bP⟩

theorem a4n {q0 : s7} {q1 : k6} {r : k6} (hS : SH w K [] w K []) (an : d9 q0.Id) (l : b7 F3 K A a b q0.Fields) (ao : b7 G5 K B c d q0.Nums) (ap : q1.length ≤ maxLen) (hm : V7 F q0 q1 = some r) :
  Calls prog 222 #[.agg #[V6 q0.Id, V3 A a b, V3 B c d], sv q1] w fun e w' => ∃ K', e = .returned (sv r) ∧ SH w K [] w' K' [] ∧ r.length ≤ maxLen := by
 rw [V7] at hm
 refine ci func222 rfl ntmps222 (sr (bx rfl hS fun m aq H => ?_))
 have I : SH _ _ _ _ _ [q8 m [V6 q0.Id, V3 A a b, V3 B c d] 54] := H
 refine lv (r_s rfl) (P6 (lv (L3 rfl) (nq ?_)))
 obtain ⟨J, O, k⟩ := ob hm
 refine j4 (IE J w K [] K [] []) ?_ ?_
 ·refine i5 ?_
  obtain ⟨ar, R, y⟩ := ob O
  refine qw (fun (o : Int) => IW w K [] K [(1, sv q1), (2, pt m), (5, V6 o)] [q8 m [V6 q0.Id, V3 A a b, V3 B c d] 54] (d9 o)) R ⟨K, rfl, I, kr, I0⟩ ?_
  rintro o _ au aw S C ⟨q, rfl, f, i, ax⟩
  refine k8 (sr (mv rfl (fl W0 rfl a3Y m0 f rfl (lv (k9 underlying51 rfl (l.mono i)) (lv (n8 rfl rfl) (nq (B5 S rfl (fun T s => ?_) (fun T s => ?_))))))))
  ·refine i6 (qs (i5 (sr (fl W0 rfl a3Y m0 f rfl (mv rfl ?_)))))
   obtain ⟨D, U, V⟩ := ob s
   refine li underlying51 M9 (l.mono i) U fun W X ay Y aa => ?_
   obtain ⟨rfl, az, aA⟩ := Y
   have ab : D0 _ W X [sv D.Name, sv D.Text] := aa
   refine fa a2l rfl (lv (u0 D9 rfl f (ab 0 _ rfl)) (mv rfl (lv (H0 rfl rfl) (nq (B5 V rfl (fun ac x => ?_) (fun ac x => ?_))))))
   ·refine sr (fl W0 rfl a3Y m0 f rfl (mv rfl ?_))
    obtain ⟨G, ad, ae⟩ := ob x
    refine li underlying51 M9 (l.mono i) ad fun af ag aB ah ai => ?_
    obtain ⟨rfl, aC, aj⟩ := ah
    have ak : D0 _ af ag [sv G.Name, sv G.Text] := ai
    refine fa a6f rfl (lv (u0 D9 rfl f (ak 1 _ rfl)) (av rfl (nq (i9 (d8 (c9 (c9 ?_)))))))
    cases oi ae
    cases C _ rfl
    refine d8 (c9 ?_)
    cases oi y
    refine c9 ?_
    cases oi k
    exact ey results222 ⟨q, rfl, f.s, aj⟩
   refine i6 (o0 (j6 (i7 (mv rfl (lv (s6 rfl rfl) (av rfl (d7 ?_)))))))
   cases oi x
   exact qd ⟨_, rfl, q, rfl, f, i, (l9 _)⟩
  refine q7 (d4 (d4 ?_))
  cases oi s
  cases C _ rfl
  refine j5 ?_
  cases oi y
  exact H9 ⟨_, q, rfl, rfl, f.s, i⟩ trivial
 rintro _ aD ⟨aE, al, rfl, rfl, am, aF⟩
 have k := C8 k
 refine qr (lv (r_s rfl) (nq (i9 ?_)))
 cases oi k
 exact ey results222 ⟨al, rfl, am, (by decide : ([] : k6).length ≤ maxLen)⟩

theorem a17 {q0 : List k6} {q1 : Int} {r : Bool} (hS : SH w K [] w K []) (c : b7 B8 K A a b q0) (D : d9 q1) (hm : P3 F q0 q1 = some r) :
  Calls prog 86 #[V3 A a b, V6 q1] w (R_b w K r) := by
 rw [P3] at hm
 refine ci func86 rfl ntmps86 (sr (lv (M7 rfl) (P6 (lv (L3 rfl) (nq ?_)))))
 obtain ⟨G, H, d⟩ := ob hm
 refine j4 (IE G w K [] K [(0, V3 A a b), (1, V6 q1)] []) ?_ ?_
 ·refine i5 ?_
  obtain ⟨ak, I, o⟩ := ob H
  refine qw (fun (k : Int) => IW w K [] K [(0, V3 A a b), (1, V6 q1), (5, V6 k)] [] (d9 k)) I ⟨K, rfl, hS, kr, I0⟩ ?_
  rintro k _ al am J q ⟨O, rfl, f, i, an⟩
  refine k8 (sr (mv rfl (mv rfl (lv (k9 underlying23 rfl (c.mono i)) (lv (n8 rfl rfl) (nq (B5 J rfl (fun R l => ?_) (fun R l => ?_))))))))
  ·refine i6 (qs (i5 (sr (mv rfl (mv rfl ?_)))))
   obtain ⟨S, T, U⟩ := ob l
   refine li underlying23 D9 (c.mono i) T fun V W ao X Y => ?_
   obtain ⟨rfl, aa⟩ := X
   have ab : D0 _ V W [sv S] := Y
   refine lv (u0 D9 rfl f (ab 0 _ rfl)) ?_
   obtain ⟨ap, ac, ad⟩ := ob U
   refine lk a6e (D6 F f.enter0 aa ac) ?_
   rintro aq ar ⟨s, rfl, x⟩
   have y := (f.c0 x).t0
   refine lv (y4 rfl) (nq (B5 ad rfl (fun ae m => ?_) (fun ae m => ?_)))
   ·refine sr (lv (M7 rfl) (nq (i9 (d8 (c9 (c9 ?_))))))
    cases oi m
    cases q _ rfl
    refine d8 (c9 ?_)
    cases oi o
    refine c9 ?_
    cases oi d
    exact ey results86 ⟨s, rfl, y⟩
   refine i6 (o0 (j6 (i7 (mv rfl (lv (s6 rfl rfl) (av rfl (d7 ?_)))))))
   cases oi m
   exact qd ⟨_, rfl, s, rfl, y, (i.trans x.le), (l9 _)⟩
  refine q7 (d4 (d4 ?_))
  cases oi l
  cases q _ rfl
  refine j5 ?_
  cases oi o
  exact qd ⟨_, O, rfl, rfl, f, i⟩
 rintro _ au ⟨s9, ax, rfl, rfl, B, C⟩
 have d := C8 d
 refine qr (mv rfl (lv (k9 underlying23 rfl (c.mono C)) (mv rfl ?_)))
 obtain ⟨ay, af, ag⟩ := ob d
 refine lk a4B (F0 F B.enter0 (c.mono C).rn (by decide : d9 1) D af) ?_
 rintro az aA ⟨ah, rfl, ai⟩
 have aj := (B.c0 ai).t0
 refine av rfl (nq (i9 ?_))
 cases oi ag
 exact ey results86 ⟨ah, rfl, aj⟩

theorem J2 {q0 : r5} {q1 : Bool} {q2 : Bool} {q3 : Bool} {q4 : Bool} {r : Bool} (hS : SH w K [] w K []) (aJ : d9 q0.Kind) (aK : q0.Field.length ≤ maxLen) (aG : b7 B8 K A a b q0.Words) (aL : d9 q0.From) (aM : d9 q0.To) (ac : b7 E4 K B c d q0.Kids) (hm : B9 F q0 q1 q2 q3 q4 = some r) :
  Calls prog 242 #[.agg #[V6 q0.Kind, sv q0.Field, V3 A a b, V6 q0.From, V6 q0.To, V3 B c d], .bool q1, .bool q2, .bool q3, .bool q4] w (R_b w K r) := by
 rw [B9] at hm
 refine ci func242 rfl ntmps242 (sr (bx rfl hS fun aH aN aI => ?_))
 have f : SH _ _ _ _ _ [q8 aH [V6 q0.Kind, sv q0.Field, V3 A a b, V6 q0.From, V6 q0.To, V3 B c d] 42] := aI
 refine lv (M7 rfl) (nr (mv rfl (mv rfl (bt hm (fun W ad => ?_) (fun W ad => ?_)))))
 ·refine lu W (lu W (lu W (lv (K5 rfl W rfl) (mv rfl (lg rfl (d6 rfl) (lg rfl (d6 rfl) (bt ad (fun s ae => ?_) (fun s ae => ?_))))))))
  ·refine lu s (lu s (lu s (lu s (lg rfl (K5 rfl s rfl) (lv (j3 rfl rfl rfl) (mv rfl (lg rfl (d6 rfl) (lg rfl (d6 rfl) (bt ae (fun i af => ?_) (fun i af => ?_))))))))))
   ·refine lu i (lu i (lu i (lu i (u1 (uu rfl rfl) rfl (u1 (uu rfl rfl) rfl (u1 (uu rfl rfl) rfl (lu i (lg rfl (K5 rfl i rfl) (lv (j3 rfl rfl rfl) ?_)))))))))
    refine mv rfl (lg rfl (d6 rfl) (lg rfl (d6 rfl) (bt af (fun x ag => ?_) (fun x ag => ?_))))
    ·refine lu x (lu x (lu x (lu x (lg rfl (K5 rfl x rfl) (lv (j3 rfl rfl rfl) (av rfl (nq (i9 ?_))))))))
     cases oi ag
     exact ey results242 ⟨K, rfl, f.s⟩
    refine lg x (b8 Q2 rfl) (lg x (l8 a2P rfl m0 f rfl) (lg x (k9 underlying40 rfl ac) (lg x (u3 rfl rfl) (lg rfl (j9 rfl x rfl) (lv (j3 rfl rfl rfl) (av rfl (nq (i9 ?_))))))))
    cases oi ag
    exact ey results242 ⟨K, rfl, f.s⟩
   refine lg i (b8 X6 rfl) (lg i (l8 D8 rfl m0 f rfl) (lg i (u3 rfl rfl) (lg i (d6 rfl) (bt af (fun X ah => ?_) (fun X ah => ?_)))))
   ·refine lg X (b8 a14 rfl) (lg X (l8 D8 rfl m0 f rfl) (lg X (u3 rfl rfl) (lg i (j3 rfl X rfl) (lg rfl (j9 rfl i rfl) (lv (j3 rfl rfl rfl) (mv rfl (bt ah (fun y ai => ?_) (fun y ai => ?_))))))))
    ·refine lg y (d6 rfl) (lg y (d6 rfl) (bt ai (fun C aj => ?_) (fun C aj => ?_)))
     ·refine lu C (lu C (lu C (lu C (lg y (K5 rfl C rfl) (lv (j3 rfl y rfl) (av rfl (nq (i9 ?_))))))))
      cases oi aj
      exact ey results242 ⟨K, rfl, f.s⟩
     refine lg C (b8 Q2 rfl) (lg C (l8 a2P rfl m0 f rfl) (lg C (k9 underlying40 rfl ac) (lg C (u3 rfl rfl) (lg y (j9 rfl C rfl) (lv (j3 rfl y rfl) (av rfl (nq (i9 ?_))))))))
     cases oi aj
     exact ey results242 ⟨K, rfl, f.s⟩
    refine lu y (lu y (u1 (uu rfl rfl) rfl (u1 (uu rfl rfl) rfl (u1 (uu rfl rfl) rfl (u1 (uu rfl rfl) rfl (lu y (lv (F7 rfl y rfl) (av rfl (nq ?_)))))))))
    refine i9 ?_
    cases oi ai
    exact ey results242 ⟨K, rfl, f.s⟩
   refine lu X (lu X (lu X (lg i (F7 rfl X rfl) (lg rfl (j9 rfl i rfl) (lv (j3 rfl rfl rfl) (mv rfl (lu rfl (lu rfl (u1 (uu rfl rfl) rfl ?_)))))))))
   refine u1 (uu rfl rfl) rfl (u1 (uu rfl rfl) rfl (u1 (uu rfl rfl) rfl (lu rfl (lv (F7 rfl rfl rfl) (av rfl (nq (i9 ?_)))))))
   cases oi ah
   exact ey results242 ⟨K, rfl, f.s⟩
  refine lg s (b8 V9 rfl) (lg s (l8 O5 rfl m0 f rfl) (lg s (k9 underlying23 rfl aG) (lg s (u3 rfl rfl) (lg rfl (j9 rfl s rfl) (lv (j3 rfl rfl rfl) (mv rfl (bt ae (fun o ak => ?_) (fun o ak => ?_))))))))
  ·refine lg o (d6 rfl) (lg o (d6 rfl) (bt ak (fun k al => ?_) (fun k al => ?_)))
   ·refine lu k (lu k (lu k (lu k (u1 (uu rfl rfl) rfl (u1 (uu rfl rfl) rfl (u1 (uu rfl rfl) rfl (lu k (lg o (K5 rfl k rfl) (lv (j3 rfl o rfl) ?_)))))))))
    refine mv rfl (lg rfl (d6 rfl) (lg rfl (d6 rfl) (bt al (fun D am => ?_) (fun D am => ?_))))
    ·refine lu D (lu D (lu D (lu D (lg rfl (K5 rfl D rfl) (lv (j3 rfl rfl rfl) (av rfl (nq (i9 ?_))))))))
     cases oi am
     exact ey results242 ⟨K, rfl, f.s⟩
    refine lg D (b8 Q2 rfl) (lg D (l8 a2P rfl m0 f rfl) (lg D (k9 underlying40 rfl ac) (lg D (u3 rfl rfl) (lg rfl (j9 rfl D rfl) (lv (j3 rfl rfl rfl) (av rfl (nq (i9 ?_))))))))
    cases oi am
    exact ey results242 ⟨K, rfl, f.s⟩
   refine lg k (b8 X6 rfl) (lg k (l8 D8 rfl m0 f rfl) (lg k (u3 rfl rfl) (lg k (d6 rfl) (bt al (fun Y an => ?_) (fun Y an => ?_)))))
   ·refine lg Y (b8 a14 rfl) (lg Y (l8 D8 rfl m0 f rfl) (lg Y (u3 rfl rfl) (lg k (j3 rfl Y rfl) (lg o (j9 rfl k rfl) (lv (j3 rfl o rfl) (mv rfl (bt an (fun G ao => ?_) (fun G ao => ?_))))))))
    ·refine lg G (d6 rfl) (lg G (d6 rfl) (bt ao (fun H ap => ?_) (fun H ap => ?_)))
     ·refine lu H (lu H (lu H (lu H (lg G (K5 rfl H rfl) (lv (j3 rfl G rfl) (av rfl (nq (i9 ?_))))))))
      cases oi ap
      exact ey results242 ⟨K, rfl, f.s⟩
     refine lg H (b8 Q2 rfl) (lg H (l8 a2P rfl m0 f rfl) (lg H (k9 underlying40 rfl ac) (lg H (u3 rfl rfl) (lg G (j9 rfl H rfl) (lv (j3 rfl G rfl) (av rfl (nq (i9 ?_))))))))
     cases oi ap
     exact ey results242 ⟨K, rfl, f.s⟩
    refine lu G (lu G (u1 (uu rfl rfl) rfl (u1 (uu rfl rfl) rfl (u1 (uu rfl rfl) rfl (u1 (uu rfl rfl) rfl (lu G (lv (F7 rfl G rfl) (av rfl (nq ?_)))))))))
    refine i9 ?_
    cases oi ao
    exact ey results242 ⟨K, rfl, f.s⟩
   refine lu Y (lu Y (lu Y (lg k (F7 rfl Y rfl) (lg o (j9 rfl k rfl) (lv (j3 rfl o rfl) (mv rfl (lu rfl (lu rfl (u1 (uu rfl rfl) rfl ?_)))))))))
   refine u1 (uu rfl rfl) rfl (u1 (uu rfl rfl) rfl (u1 (uu rfl rfl) rfl (lu rfl (lv (F7 rfl rfl rfl) (av rfl (nq (i9 ?_)))))))
   cases oi an
   exact ey results242 ⟨K, rfl, f.s⟩
  refine lu o (lu o (u1 (uu rfl rfl) rfl (u1 (uu rfl rfl) rfl (u1 (uu rfl rfl) rfl (u1 (uu rfl rfl) rfl (u1 (uu rfl rfl) rfl (u1 (uu rfl rfl) rfl (u1 (uu rfl rfl) rfl (u1 (uu rfl rfl) rfl ?_)))))))))
  refine lu o (lv (F7 rfl o rfl) (mv rfl (lu rfl (lu rfl (u1 (uu rfl rfl) rfl (u1 (uu rfl rfl) rfl (u1 (uu rfl rfl) rfl (u1 (uu rfl rfl) rfl (lu rfl ?_)))))))))
  refine lv (F7 rfl rfl rfl) (av rfl (nq (i9 ?_)))
  cases oi ak
  exact ey results242 ⟨K, rfl, f.s⟩
 refine lg W (b8 Q1 rfl) (lg W (l8 D9 rfl m0 f rfl) (lg W (H0 (r := ([] : k6)) rfl rfl) (lv (j9 rfl W rfl) (mv rfl (bt ad (fun I aq => ?_) (fun I aq => ?_))))))
 ·refine lg I (d6 rfl) (lg I (d6 rfl) (bt aq (fun J ar => ?_) (fun J ar => ?_)))
  ·refine lu J (lu J (lu J (lu J (lg I (K5 rfl J rfl) (lv (j3 rfl I rfl) (mv rfl (lg rfl (d6 rfl) (lg rfl (d6 rfl) (bt ar (fun l au => ?_) (fun l au => ?_))))))))))
   ·refine lu l (lu l (lu l (lu l (u1 (uu rfl rfl) rfl (u1 (uu rfl rfl) rfl (u1 (uu rfl rfl) rfl (lu l (lg rfl (K5 rfl l rfl) (lv (j3 rfl rfl rfl) ?_)))))))))
    refine mv rfl (lg rfl (d6 rfl) (lg rfl (d6 rfl) (bt au (fun O aw => ?_) (fun O aw => ?_))))
    ·refine lu O (lu O (lu O (lu O (lg rfl (K5 rfl O rfl) (lv (j3 rfl rfl rfl) (av rfl (nq (i9 ?_))))))))
     cases oi aw
     exact ey results242 ⟨K, rfl, f.s⟩
    refine lg O (b8 Q2 rfl) (lg O (l8 a2P rfl m0 f rfl) (lg O (k9 underlying40 rfl ac) (lg O (u3 rfl rfl) (lg rfl (j9 rfl O rfl) (lv (j3 rfl rfl rfl) (av rfl (nq (i9 ?_))))))))
    cases oi aw
    exact ey results242 ⟨K, rfl, f.s⟩
   refine lg l (b8 X6 rfl) (lg l (l8 D8 rfl m0 f rfl) (lg l (u3 rfl rfl) (lg l (d6 rfl) (bt au (fun aa ax => ?_) (fun aa ax => ?_)))))
   ·refine lg aa (b8 a14 rfl) (lg aa (l8 D8 rfl m0 f rfl) (lg aa (u3 rfl rfl) (lg l (j3 rfl aa rfl) (lg rfl (j9 rfl l rfl) (lv (j3 rfl rfl rfl) (mv rfl (bt ax (fun R ay => ?_) (fun R ay => ?_))))))))
    ·refine lg R (d6 rfl) (lg R (d6 rfl) (bt ay (fun S az => ?_) (fun S az => ?_)))
     ·refine lu S (lu S (lu S (lu S (lg R (K5 rfl S rfl) (lv (j3 rfl R rfl) (av rfl (nq (i9 ?_))))))))
      cases oi az
      exact ey results242 ⟨K, rfl, f.s⟩
     refine lg S (b8 Q2 rfl) (lg S (l8 a2P rfl m0 f rfl) (lg S (k9 underlying40 rfl ac) (lg S (u3 rfl rfl) (lg R (j9 rfl S rfl) (lv (j3 rfl R rfl) (av rfl (nq (i9 ?_))))))))
     cases oi az
     exact ey results242 ⟨K, rfl, f.s⟩
    refine lu R (lu R (u1 (uu rfl rfl) rfl (u1 (uu rfl rfl) rfl (u1 (uu rfl rfl) rfl (u1 (uu rfl rfl) rfl (lu R (lv (F7 rfl R rfl) (av rfl (nq ?_)))))))))
    refine i9 ?_
    cases oi ay
    exact ey results242 ⟨K, rfl, f.s⟩
   refine lu aa (lu aa (lu aa (lg l (F7 rfl aa rfl) (lg rfl (j9 rfl l rfl) (lv (j3 rfl rfl rfl) (mv rfl (lu rfl (lu rfl (u1 (uu rfl rfl) rfl ?_)))))))))
   refine u1 (uu rfl rfl) rfl (u1 (uu rfl rfl) rfl (u1 (uu rfl rfl) rfl (lu rfl (lv (F7 rfl rfl rfl) (av rfl (nq (i9 ?_)))))))
   cases oi ax
   exact ey results242 ⟨K, rfl, f.s⟩
  refine lg J (b8 V9 rfl) (lg J (l8 O5 rfl m0 f rfl) (lg J (k9 underlying23 rfl aG) (lg J (u3 rfl rfl) (lg I (j9 rfl J rfl) (lv (j3 rfl I rfl) (mv rfl (bt ar (fun q aA => ?_) (fun q aA => ?_))))))))
  ·refine lg q (d6 rfl) (lg q (d6 rfl) (bt aA (fun m aB => ?_) (fun m aB => ?_)))
   ·refine lu m (lu m (lu m (lu m (u1 (uu rfl rfl) rfl (u1 (uu rfl rfl) rfl (u1 (uu rfl rfl) rfl (lu m (lg q (K5 rfl m rfl) (lv (j3 rfl q rfl) ?_)))))))))
    refine mv rfl (lg rfl (d6 rfl) (lg rfl (d6 rfl) (bt aB (fun T aC => ?_) (fun T aC => ?_))))
    ·refine lu T (lu T (lu T (lu T (lg rfl (K5 rfl T rfl) (lv (j3 rfl rfl rfl) (av rfl (nq (i9 ?_))))))))
     cases oi aC
     exact ey results242 ⟨K, rfl, f.s⟩
    refine lg T (b8 Q2 rfl) (lg T (l8 a2P rfl m0 f rfl) (lg T (k9 underlying40 rfl ac) (lg T (u3 rfl rfl) (lg rfl (j9 rfl T rfl) (lv (j3 rfl rfl rfl) (av rfl (nq (i9 ?_))))))))
    cases oi aC
    exact ey results242 ⟨K, rfl, f.s⟩
   refine lg m (b8 X6 rfl) (lg m (l8 D8 rfl m0 f rfl) (lg m (u3 rfl rfl) (lg m (d6 rfl) (bt aB (fun ab aD => ?_) (fun ab aD => ?_)))))
   ·refine lg ab (b8 a14 rfl) (lg ab (l8 D8 rfl m0 f rfl) (lg ab (u3 rfl rfl) (lg m (j3 rfl ab rfl) (lg q (j9 rfl m rfl) (lv (j3 rfl q rfl) (mv rfl (bt aD (fun U aE => ?_) (fun U aE => ?_))))))))
    ·refine lg U (d6 rfl) (lg U (d6 rfl) (bt aE (fun V aF => ?_) (fun V aF => ?_)))
     ·refine lu V (lu V (lu V (lu V (lg U (K5 rfl V rfl) (lv (j3 rfl U rfl) (av rfl (nq (i9 ?_))))))))
      cases oi aF
      exact ey results242 ⟨K, rfl, f.s⟩
     refine lg V (b8 Q2 rfl) (lg V (l8 a2P rfl m0 f rfl) (lg V (k9 underlying40 rfl ac) (lg V (u3 rfl rfl) (lg U (j9 rfl V rfl) (lv (j3 rfl U rfl) (av rfl (nq (i9 ?_))))))))
     cases oi aF
     exact ey results242 ⟨K, rfl, f.s⟩
    refine lu U (lu U (u1 (uu rfl rfl) rfl (u1 (uu rfl rfl) rfl (u1 (uu rfl rfl) rfl (u1 (uu rfl rfl) rfl (lu U (lv (F7 rfl U rfl) (av rfl (nq ?_)))))))))
    refine i9 ?_
    cases oi aE
    exact ey results242 ⟨K, rfl, f.s⟩
   refine lu ab (lu ab (lu ab (lg m (F7 rfl ab rfl) (lg q (j9 rfl m rfl) (lv (j3 rfl q rfl) (mv rfl (lu rfl (lu rfl (u1 (uu rfl rfl) rfl ?_)))))))))
   refine u1 (uu rfl rfl) rfl (u1 (uu rfl rfl) rfl (u1 (uu rfl rfl) rfl (lu rfl (lv (F7 rfl rfl rfl) (av rfl (nq (i9 ?_)))))))
   cases oi aD
   exact ey results242 ⟨K, rfl, f.s⟩
  refine lu q (lu q (u1 (uu rfl rfl) rfl (u1 (uu rfl rfl) rfl (u1 (uu rfl rfl) rfl (u1 (uu rfl rfl) rfl (u1 (uu rfl rfl) rfl (u1 (uu rfl rfl) rfl (u1 (uu rfl rfl) rfl (u1 (uu rfl rfl) rfl ?_)))))))))
  refine lu q (lv (F7 rfl q rfl) (mv rfl (lu rfl (lu rfl (u1 (uu rfl rfl) rfl (u1 (uu rfl rfl) rfl (u1 (uu rfl rfl) rfl (u1 (uu rfl rfl) rfl (lu rfl ?_)))))))))
  refine lv (F7 rfl rfl rfl) (av rfl (nq (i9 ?_)))
  cases oi aA
  exact ey results242 ⟨K, rfl, f.s⟩
 refine lu I (lu I (u1 (uu rfl rfl) rfl (u1 (uu rfl rfl) rfl (u1 (uu rfl rfl) rfl (u1 (uu rfl rfl) rfl (lu I (lv (F7 rfl I rfl) (mv rfl (lu rfl ?_)))))))))
 refine lu rfl (u1 (uu rfl rfl) rfl (u1 (uu rfl rfl) rfl (u1 (uu rfl rfl) rfl (u1 (uu rfl rfl) rfl (u1 (uu rfl rfl) rfl (u1 (uu rfl rfl) rfl (u1 (uu rfl rfl) rfl (u1 (uu rfl rfl) rfl (lu rfl ?_)))))))))
 refine lv (F7 rfl rfl rfl) (mv rfl (lu rfl (lu rfl (u1 (uu rfl rfl) rfl (u1 (uu rfl rfl) rfl (u1 (uu rfl rfl) rfl (u1 (uu rfl rfl) rfl (lu rfl (lv (F7 rfl rfl rfl) ?_)))))))))
 refine av rfl (nq (i9 ?_))
 cases oi aq
 exact ey results242 ⟨K, rfl, f.s⟩

theorem a7c {q0 : k6} {r : Bool} (hS : SH w K [] w K []) (s : q0.length ≤ maxLen) (hm : Z1 F q0 = some r) :
  Calls prog 243 #[sv q0] w (R_b w K r) := by
 rw [Z1] at hm
 refine ci func243 rfl ntmps243 (sr (lv (M7 rfl) (P6 (lv (L3 rfl) (nq ?_)))))
 obtain ⟨I, J, f⟩ := ob hm
 refine j4 (IE I w K [] K [(0, sv q0)] []) ?_ ?_
 ·refine i5 ?_
  obtain ⟨ao, O, x⟩ := ob J
  refine qw (fun (i : Int) => IW w K [] K [(0, sv q0), (3, V6 i)] [] (d9 i)) O ⟨K, rfl, hS, kr, I0⟩ ?_
  rintro i _ ap aq R y ⟨k, rfl, d, A, ar⟩
  refine k8 (sr (mv rfl (mv rfl (lv (F1 underlying9 rfl) (lv (n8 rfl rfl) (nq (B5 R rfl (fun S l => ?_) (fun S l => ?_))))))))
  ·refine i6 (qs (i5 (k8 ?_)))
   obtain ⟨T, U, V⟩ := ob l
   refine j4 (IV w K [] k [(0, sv q0), (3, V6 i), (28, .bool T)] []) ?_ ?_
   ·refine i7 (mv rfl (mv rfl ?_))
    obtain ⟨au, W, X⟩ := ob U
    refine lv (G8 underlying9 rfl rfl W) (lv (a44 (b := (42 : UInt8)) rfl rfl) (mv rfl (bt X (fun a m => ?_) (fun a m => ?_))))
    ·refine lg a (d6 rfl) (lg a (d6 rfl) ?_)
     obtain ⟨aw, Y, aa⟩ := ob m
     refine lg a (G8 underlying9 rfl rfl Y) (lg a (a44 (b := (63 : UInt8)) rfl rfl) (lv (j3 rfl a rfl) (mv rfl (bt aa (fun c o => ?_) (fun c o => ?_)))))
     ·refine lg c (d6 rfl) (lg c (d6 rfl) (lg c (d6 rfl) (lg c (s6 rfl rfl) ?_)))
      obtain ⟨ab, B, ac⟩ := ob o
      refine lg c (b4E underlying9 rfl rfl rfl B) ?_
      obtain ⟨ax, ad, ae⟩ := ob ac
      refine x9 (wg rfl rfl c) rfl (x8 (vs := [sv ab]) a6e rfl) (D6 F d.enter0 (Y0 s B) ad) ?_
      rintro ay az ⟨af, rfl, C⟩
      refine ⟨_, rfl, ?_⟩
      have ag := (d.c0 C).t0
      refine lg c (y4 rfl) (lv (j3 rfl c rfl) (d7 ?_))
      cases oi ae
      exact qd ⟨af, rfl, ag, C.le⟩
     iterate 7 refine lu c ?_
     refine lv (F7 rfl c rfl) (d7 ?_)
     cases oi o
     exact qd ⟨k, rfl, d, kr⟩
    refine lu a (lu a (lu a (lu a (lv (F7 rfl a rfl) (mv rfl ?_)))))
    iterate 7 refine lu rfl ?_
    refine lv (F7 rfl rfl rfl) (d7 ?_)
    cases oi m
    exact qd ⟨k, rfl, d, kr⟩
   rintro _ aA ⟨D, rfl, G, ah⟩
   refine j6 (B5 V rfl (fun ai q => ?_) (fun ai q => ?_))
   ·refine sr (lv (M7 rfl) (nq (i9 (d8 (c9 (c9 ?_))))))
    cases oi q
    cases y _ rfl
    refine d8 (c9 ?_)
    cases oi x
    refine c9 ?_
    cases oi f
    exact ey results243 ⟨D, rfl, G⟩
   refine i6 (o0 (j6 (i7 (mv rfl (lv (s6 rfl rfl) (av rfl (d7 ?_)))))))
   cases oi q
   exact qd ⟨_, rfl, D, rfl, G, (A.trans ah), (l9 _)⟩
  refine q7 (d4 (d4 ?_))
  cases oi l
  cases y _ rfl
  refine j5 ?_
  cases oi x
  exact qd ⟨_, k, rfl, rfl, d, A⟩
 rintro _ w8 ⟨s5, K6, rfl, rfl, H, aE⟩
 have f := C8 f
 refine qr (mv rfl (lv (F1 underlying9 rfl) ?_))
 obtain ⟨aF, aj, ak⟩ := ob f
 refine lk a4B (F0 F H.enter0 (a3o s) (by decide : d9 1) (by decide : d9 12) aj) ?_
 rintro aG aH ⟨al, rfl, am⟩
 have an := (H.c0 am).t0
 refine av rfl (nq (i9 ?_))
 cases oi ak
 exact ey results243 ⟨al, rfl, an⟩

theorem a9d {q0 : r5} {r : Bool} (hS : SH w K [] w K []) (C : d9 q0.Kind) (k : q0.Field.length ≤ maxLen) (i : b7 B8 K A a b q0.Words) (l : d9 q0.From) (s : d9 q0.To) (m : b7 E4 K B c d q0.Kids) (hm : N4 F q0 = some r) :
  Calls prog 192 #[.agg #[V6 q0.Kind, sv q0.Field, V3 A a b, V6 q0.From, V6 q0.To, V3 B c d]] w (R_b w K r) := by
 rw [N4] at hm
 refine ci func192 rfl ntmps192 (sr (bx rfl hS fun aO eT bU => ?_))
 have f : SH _ _ _ _ _ [q8 aO [V6 q0.Kind, sv q0.Field, V3 A a b, V6 q0.From, V6 q0.To, V3 B c d] 42] := bU
 refine lv (M7 rfl) (nr (fl Q2 rfl a2P m0 f rfl (lv (k9 underlying40 rfl m) (av rfl (P6 (fl a34 rfl D8 m0 f rfl (nq (i5 (sr ?_)))))))))
 refine lv (u3 rfl rfl) (av rfl (nq (S3 rfl (fun aP => ?_) (fun aP => ?_))))
 ·have aQ := a1R aP hm
  refine sr (lv (l3 (ds := [V6 q0.Kind, sv q0.Field, V3 A a b, V6 q0.From, V6 q0.To, V3 B c d]) C3 rfl m0 f rfl rfl) ?_)
  obtain ⟨eU, bV, bW⟩ := ob aQ
  refine lk a6c (J2 F f.enter0 C k i l s m bV) ?_
  rintro eV eW ⟨bX, rfl, bY⟩
  have bZ := (f.c0 bY).t1
  refine av rfl (nq (i9 (d8 (c9 ?_))))
  cases oi bW
  exact ey results192 ⟨bX, rfl, bZ.s⟩
 have aQ := a1Q aP hm
 refine sr (lv (u3 rfl rfl) (av rfl (nq (B5 aQ rfl (fun ca aR => ?_) (fun ca aR => ?_)))))
 ·refine k8 ?_
  obtain ⟨cb, cc, cd⟩ := ob aR
  refine j4 (IV w K [] K [(2, .bool cb)] []) ?_ ?_
  ·refine i7 (lv (l3 (ds := [V6 q0.Kind, sv q0.Field, V3 A a b, V6 q0.From, V6 q0.To, V3 B c d]) C3 rfl m0 f rfl rfl) ?_)
   obtain ⟨eX, ce, cf⟩ := ob cc
   refine lk a6c (J2 F f.enter0 C k i l s m ce) ?_
   rintro eY eZ ⟨cg, rfl, au⟩
   have aA := (f.c0 au).t1
   refine mv rfl (bt cf (fun D aS => ?_) (fun D aS => ?_))
   ·refine lg D (b8 Q1 rfl) (lg D (l8 D9 rfl m0 aA rfl) ?_)
    obtain ⟨fb, ch, cj⟩ := ob aS
    refine x9 (wg rfl rfl D) rfl (x8 (vs := [sv q0.Field]) a6e rfl) (D6 F aA.enter0 k ch) ?_
    rintro fc fd ⟨ck, rfl, aB⟩
    refine ⟨_, rfl, ?_⟩
    have aC := (aA.c0 aB).t1
    refine lv (j3 rfl D rfl) (mv rfl (bt cj (fun G aT => ?_) (fun G aT => ?_)))
    ·refine lg G (b8 V9 rfl) (lg G (l8 O5 rfl m0 aC rfl) ?_)
     obtain ⟨fe, cl, cm⟩ := ob aT
     refine x9 (wg rfl rfl G) rfl (x8 (vs := [V3 A a b, V6 1]) b7Z rfl) (a17 F aC.enter0 (i.mono (au.le.trans aB.le)) (by decide : d9 1) cl) ?_
     rintro fg fh ⟨cn, rfl, bH⟩
     refine ⟨_, rfl, ?_⟩
     have cp := (aC.c0 bH).t1
     refine lv (j3 rfl G rfl) (av rfl (d7 ?_))
     cases oi cm
     exact qd ⟨cn, rfl, cp.s, ((au.le.trans aB.le).trans bH.le)⟩
    refine lu G (lu G (lu G (lv (F7 rfl G rfl) (av rfl (d7 ?_)))))
    cases oi aT
    exact qd ⟨ck, rfl, aC.s, (au.le.trans aB.le)⟩
   refine lu D (lu D (lu D (lv (F7 rfl D rfl) (mv rfl (lu rfl (lu rfl (lu rfl (lv (F7 rfl rfl rfl) (av rfl ?_)))))))))
   refine d7 ?_
   cases oi aS
   exact qd ⟨cg, rfl, aA.s, au.le⟩
  rintro _ fi ⟨cq, rfl, cr, fj⟩
  refine j6 (i9 (d8 (c9 ?_)))
  cases oi cd
  exact ey results192 ⟨cq, rfl, cr⟩
 refine sr (lv (u3 rfl rfl) (av rfl (nq (B5 aR rfl (fun cs aU => ?_) (fun cs aU => ?_)))))
 ·refine k8 ?_
  obtain ⟨ct, cu, cv⟩ := ob aU
  refine j4 (IV w K [] K [(2, .bool ct)] []) ?_ ?_
  ·refine i7 (lv (l3 (ds := [V6 q0.Kind, sv q0.Field, V3 A a b, V6 q0.From, V6 q0.To, V3 B c d]) C3 rfl m0 f rfl rfl) ?_)
   obtain ⟨fk, cw, cx⟩ := ob cu
   refine lk a6c (J2 F f.enter0 C k i l s m cw) ?_
   rintro fm fn ⟨cy, rfl, H⟩
   have aD := (f.c0 H).t1
   refine mv rfl (bt cx (fun I aV => ?_) (fun I aV => ?_))
   ·refine lg I (b8 Q1 rfl) (lg I (l8 D9 rfl m0 aD rfl) ?_)
    obtain ⟨fo, cz, cA⟩ := ob aV
    refine x9 (wg rfl rfl I) rfl (x8 (vs := [sv q0.Field]) a6e rfl) (D6 F aD.enter0 k cz) ?_
    rintro fp fq ⟨cB, rfl, af⟩
    refine ⟨_, rfl, ?_⟩
    have aE := (aD.c0 af).t1
    refine lv (j3 rfl I rfl) (mv rfl (bt cA (fun J aW => ?_) (fun J aW => ?_)))
    ·refine lg J (b8 V9 rfl) (lg J (l8 O5 rfl m0 aE rfl) ?_)
     obtain ⟨fr, cC, cD⟩ := ob aW
     refine x9 (wg rfl rfl J) rfl (x8 (vs := [V3 A a b, V6 4]) b7Z rfl) (a17 F aE.enter0 (i.mono (H.le.trans af.le)) (by decide : d9 4) cC) ?_
     rintro fs ft ⟨aX, rfl, ao⟩
     refine ⟨_, rfl, ?_⟩
     have ag := (aE.c0 ao).t1
     refine lv (j3 rfl J rfl) (mv rfl (bt cD (fun o aY => ?_) (fun o aY => ?_)))
     ·refine lg o (b8 V9 rfl) (lg o (l8 O5 rfl m0 ag rfl) (lg o (k9 underlying23 rfl (i.mono ((H.le.trans af.le).trans ao.le))) (lg o (E5 rfl rfl) (lv (j3 rfl o rfl) (mv rfl (bt aY (fun O aZ => ?_) (fun O aZ => ?_)))))))
      ·refine lg O (b8 a14 rfl) (lg O (l8 D8 rfl m0 ag rfl) (lg O (u3 rfl rfl) (lv (j3 rfl O rfl) (mv rfl (bt aZ (fun R ba => ?_) (fun R ba => ?_))))))
       ·refine lg R (b8 X6 rfl) (lg R (l8 D8 rfl m0 ag rfl) ?_)
        obtain ⟨fu, cE, cF⟩ := ob ba
        refine x9 (wg rfl rfl R) rfl (x8 (vs := [V6 q0.From, V6 0, V6 5]) a4B rfl) (F0 F ag.enter0 l I0 (by decide : d9 5) cE) ?_
        rintro fv fw ⟨cG, rfl, bI⟩
        refine ⟨_, rfl, ?_⟩
        have cH := (ag.c0 bI).t1
        refine lv (j3 rfl R rfl) (av rfl (d7 ?_))
        cases oi cF
        exact qd ⟨cG, rfl, cH.s, (((H.le.trans af.le).trans ao.le).trans bI.le)⟩
       refine lu R (lu R (lu R (lv (F7 rfl R rfl) (av rfl (d7 ?_)))))
       cases oi ba
       exact qd ⟨aX, rfl, ag.s, ((H.le.trans af.le).trans ao.le)⟩
      refine lu O (lu O (lu O (lv (F7 rfl O rfl) (mv rfl (lu rfl (lu rfl (lu rfl (lv (F7 rfl rfl rfl) (av rfl ?_)))))))))
      refine d7 ?_
      cases oi aZ
      exact qd ⟨aX, rfl, ag.s, ((H.le.trans af.le).trans ao.le)⟩
     refine lu o (lu o (lu o (lu o (lv (F7 rfl o rfl) (mv rfl (lu rfl (lu rfl (lu rfl (lv (F7 rfl rfl rfl) ?_)))))))))
     refine mv rfl (lu rfl (lu rfl (lu rfl (lv (F7 rfl rfl rfl) (av rfl (d7 ?_))))))
     cases oi aY
     exact qd ⟨aX, rfl, ag.s, ((H.le.trans af.le).trans ao.le)⟩
    refine lu J (lu J (lu J (lv (F7 rfl J rfl) (mv rfl (lu rfl (lu rfl (lu rfl (lu rfl (lv (F7 rfl rfl rfl) ?_)))))))))
    refine mv rfl (lu rfl (lu rfl (lu rfl (lv (F7 rfl rfl rfl) (mv rfl (lu rfl (lu rfl (lu rfl (lv (F7 rfl rfl rfl) ?_)))))))))
    refine av rfl (d7 ?_)
    cases oi aW
    exact qd ⟨cB, rfl, aE.s, (H.le.trans af.le)⟩
   refine lu I (lu I (lu I (lv (F7 rfl I rfl) (mv rfl (lu rfl (lu rfl (lu rfl (lv (F7 rfl rfl rfl) (mv rfl ?_)))))))))
   refine lu rfl (lu rfl (lu rfl (lu rfl (lv (F7 rfl rfl rfl) (mv rfl (lu rfl (lu rfl (lu rfl (lv (F7 rfl rfl rfl) ?_)))))))))
   refine mv rfl (lu rfl (lu rfl (lu rfl (lv (F7 rfl rfl rfl) (av rfl (d7 ?_))))))
   cases oi aV
   exact qd ⟨cy, rfl, aD.s, H.le⟩
  rintro _ fx ⟨cI, rfl, cJ, fy⟩
  refine j6 (i9 (d8 (c9 ?_)))
  cases oi cv
  exact ey results192 ⟨cI, rfl, cJ⟩
 refine sr (lv (u3 rfl rfl) (av rfl (nq (B5 aU rfl (fun cK bb => ?_) (fun cK bb => ?_)))))
 ·refine k8 ?_
  obtain ⟨cL, cM, cN⟩ := ob bb
  refine j4 (IV w K [] K [(2, .bool cL)] []) ?_ ?_
  ·refine i7 (lv (l3 (ds := [V6 q0.Kind, sv q0.Field, V3 A a b, V6 q0.From, V6 q0.To, V3 B c d]) C3 rfl m0 f rfl rfl) ?_)
   obtain ⟨fz, cO, cP⟩ := ob cM
   refine lk a6c (J2 F f.enter0 C k i l s m cO) ?_
   rintro fA fB ⟨cQ, rfl, ai⟩
   have aF := (f.c0 ai).t1
   refine mv rfl (bt cP (fun S bc => ?_) (fun S bc => ?_))
   ·refine lg S (b8 Q1 rfl) (lg S (l8 D9 rfl m0 aF rfl) ?_)
    obtain ⟨fC, cR, cS⟩ := ob bc
    refine x9 (wg rfl rfl S) rfl (x8 (vs := [sv q0.Field]) a6e rfl) (D6 F aF.enter0 k cR) ?_
    rintro fD fE ⟨cT, rfl, ap⟩
    refine ⟨_, rfl, ?_⟩
    have aG := (aF.c0 ap).t1
    refine lv (j3 rfl S rfl) (mv rfl (bt cS (fun T bd => ?_) (fun T bd => ?_)))
    ·refine lg T (b8 V9 rfl) (lg T (l8 O5 rfl m0 aG rfl) ?_)
     obtain ⟨fF, cU, cV⟩ := ob bd
     refine x9 (wg rfl rfl T) rfl (x8 (vs := [V3 A a b, V6 1]) b7Z rfl) (a17 F aG.enter0 (i.mono (ai.le.trans ap.le)) (by decide : d9 1) cU) ?_
     rintro fG fH ⟨bJ, rfl, aH⟩
     refine ⟨_, rfl, ?_⟩
     have aq := (aG.c0 aH).t1
     refine lv (j3 rfl T rfl) (mv rfl (bt cV (fun U be => ?_) (fun U be => ?_)))
     ·refine lg U (b8 a14 rfl) (lg U (l8 D8 rfl m0 aq rfl) (lg U (u3 rfl rfl) (lv (j3 rfl U rfl) (mv rfl (bt be (fun V bf => ?_) (fun V bf => ?_))))))
      ·refine lg V (b8 X6 rfl) (lg V (l8 D8 rfl m0 aq rfl) ?_)
       obtain ⟨fI, cW, cX⟩ := ob bf
       refine x9 (wg rfl rfl V) rfl (x8 (vs := [V6 q0.From, V6 1, V6 2]) a4B rfl) (F0 F aq.enter0 l (by decide : d9 1) (by decide : d9 2) cW) ?_
       rintro fJ fK ⟨cY, rfl, bK⟩
       refine ⟨_, rfl, ?_⟩
       have cZ := (aq.c0 bK).t1
       refine lv (j3 rfl V rfl) (av rfl (d7 ?_))
       cases oi cX
       exact qd ⟨cY, rfl, cZ.s, (((ai.le.trans ap.le).trans aH.le).trans bK.le)⟩
      refine lu V (lu V (lu V (lv (F7 rfl V rfl) (av rfl (d7 ?_)))))
      cases oi bf
      exact qd ⟨bJ, rfl, aq.s, ((ai.le.trans ap.le).trans aH.le)⟩
     refine lu U (lu U (lu U (lv (F7 rfl U rfl) (mv rfl (lu rfl (lu rfl (lu rfl (lv (F7 rfl rfl rfl) (av rfl ?_)))))))))
     refine d7 ?_
     cases oi be
     exact qd ⟨bJ, rfl, aq.s, ((ai.le.trans ap.le).trans aH.le)⟩
    refine lu T (lu T (lu T (lv (F7 rfl T rfl) (mv rfl (lu rfl (lu rfl (lu rfl (lv (F7 rfl rfl rfl) (mv rfl ?_)))))))))
    refine lu rfl (lu rfl (lu rfl (lv (F7 rfl rfl rfl) (av rfl (d7 ?_)))))
    cases oi bd
    exact qd ⟨cT, rfl, aG.s, (ai.le.trans ap.le)⟩
   refine lu S (lu S (lu S (lv (F7 rfl S rfl) (mv rfl (lu rfl (lu rfl (lu rfl (lv (F7 rfl rfl rfl) (mv rfl ?_)))))))))
   refine lu rfl (lu rfl (lu rfl (lv (F7 rfl rfl rfl) (mv rfl (lu rfl (lu rfl (lu rfl (lv (F7 rfl rfl rfl) (av rfl ?_)))))))))
   refine d7 ?_
   cases oi bc
   exact qd ⟨cQ, rfl, aF.s, ai.le⟩
  rintro _ fL ⟨da, rfl, db, fM⟩
  refine j6 (i9 (d8 (c9 ?_)))
  cases oi cN
  exact ey results192 ⟨da, rfl, db⟩
 refine sr (lv (u3 rfl rfl) (av rfl (nq (B5 bb rfl (fun dc bg => ?_) (fun dc bg => ?_)))))
 ·refine k8 ?_
  obtain ⟨dd, de, df⟩ := ob bg
  refine j4 (IV w K [] K [(2, .bool dd)] []) ?_ ?_
  ·refine i7 (lv (l3 (ds := [V6 q0.Kind, sv q0.Field, V3 A a b, V6 q0.From, V6 q0.To, V3 B c d]) C3 rfl m0 f rfl rfl) ?_)
   obtain ⟨fN, dg, dh⟩ := ob de
   refine lk a6c (J2 F f.enter0 C k i l s m dg) ?_
   rintro fO fP ⟨di, rfl, W⟩
   have aI := (f.c0 W).t1
   refine mv rfl (bt dh (fun X bh => ?_) (fun X bh => ?_))
   ·refine lg X (b8 Q1 rfl) (lg X (l8 D9 rfl m0 aI rfl) ?_)
    obtain ⟨fQ, dj, dk⟩ := ob bh
    refine x9 (wg rfl rfl X) rfl (x8 (vs := [sv q0.Field]) a6e rfl) (D6 F aI.enter0 k dj) ?_
    rintro fR fS ⟨bL, rfl, ah⟩
    refine ⟨_, rfl, ?_⟩
    have aj := (aI.c0 ah).t1
    refine lv (j3 rfl X rfl) (mv rfl (bt dk (fun q bi => ?_) (fun q bi => ?_)))
    ·refine lg q (b8 V9 rfl) (lg q (l8 O5 rfl m0 aj rfl) (lg q (k9 underlying23 rfl (i.mono (W.le.trans ah.le))) (lg q (u3 rfl rfl) (lv (j3 rfl q rfl) (mv rfl (bt bi (fun Y bj => ?_) (fun Y bj => ?_)))))))
     ·refine lg Y (b8 V9 rfl) (lg Y (l8 O5 rfl m0 aj rfl) ?_)
      obtain ⟨bM, dl, dm⟩ := ob bj
      refine H1 (t := B8) (wg rfl rfl Y) rfl underlying23 D9 rfl rfl (i.mono (W.le.trans ah.le)) dl fun dn dp fT dq dr => ?_
      obtain ⟨rfl, dt⟩ := dq
      have du : D0 _ dn dp [sv bM] := dr
      refine lg Y (u0 D9 rfl aj (du 0 _ rfl)) ?_
      obtain ⟨fU, dv, dw⟩ := ob dm
      refine x9 (wg rfl rfl Y) rfl (x8 (vs := [sv bM]) b9v rfl) (a7c F aj.enter0 dt dv) ?_
      rintro fV fW ⟨dx, rfl, aJ⟩
      refine ⟨_, rfl, ?_⟩
      have aw := (aj.c0 aJ).t1
      refine lv (j3 rfl Y rfl) (mv rfl (bt dw (fun x bk => ?_) (fun x bk => ?_)))
      ·refine lg x (b8 V9 rfl) (lg x (l8 O5 rfl m0 aw rfl) ?_)
       obtain ⟨bN, dy, dz⟩ := ob bk
       refine H1 (t := B8) (wg rfl rfl x) rfl underlying23 D9 rfl rfl (i.mono ((W.le.trans ah.le).trans aJ.le)) dy fun dA dB fX dC dD => ?_
       obtain ⟨rfl, dE⟩ := dC
       have dF : D0 _ dA dB [sv bN] := dD
       refine lg x (u0 D9 rfl aw (dF 0 _ rfl)) ?_
       obtain ⟨fY, dG, dH⟩ := ob dz
       refine x9 (wg rfl rfl x) rfl (x8 (vs := [sv bN]) a6e rfl) (D6 F aw.enter0 dE dG) ?_
       rintro fZ ga ⟨dI, rfl, bO⟩
       refine ⟨_, rfl, ?_⟩
       have dJ := (aw.c0 bO).t1
       refine lg x (y4 rfl) (lv (j3 rfl x rfl) (av rfl (d7 ?_)))
       cases oi dH
       exact qd ⟨dI, rfl, dJ.s, (((W.le.trans ah.le).trans aJ.le).trans bO.le)⟩
      iterate 6 refine lu x ?_
      refine lv (F7 rfl x rfl) (av rfl (d7 ?_))
      cases oi bk
      exact qd ⟨dx, rfl, aw.s, ((W.le.trans ah.le).trans aJ.le)⟩
     iterate 5 refine lu Y ?_
     refine lv (F7 rfl Y rfl) (mv rfl ?_)
     iterate 6 refine lu rfl ?_
     refine lv (F7 rfl rfl rfl) (av rfl (d7 ?_))
     cases oi bj
     exact qd ⟨bL, rfl, aj.s, (W.le.trans ah.le)⟩
    refine lu q (lu q (lu q (lu q (lv (F7 rfl q rfl) (mv rfl ?_)))))
    iterate 5 refine lu rfl ?_
    refine lv (F7 rfl rfl rfl) (mv rfl ?_)
    iterate 6 refine lu rfl ?_
    refine lv (F7 rfl rfl rfl) (av rfl (d7 ?_))
    cases oi bi
    exact qd ⟨bL, rfl, aj.s, (W.le.trans ah.le)⟩
   refine lu X (lu X (lu X (lv (F7 rfl X rfl) (mv rfl (lu rfl (lu rfl (lu rfl (lu rfl (lv (F7 rfl rfl rfl) ?_)))))))))
   refine mv rfl ?_
   iterate 5 refine lu rfl ?_
   refine lv (F7 rfl rfl rfl) (mv rfl ?_)
   iterate 6 refine lu rfl ?_
   refine lv (F7 rfl rfl rfl) (av rfl (d7 ?_))
   cases oi bh
   exact qd ⟨di, rfl, aI.s, W.le⟩
  rintro _ gb ⟨dK, rfl, dL, gc⟩
  refine j6 (i9 (d8 (c9 ?_)))
  cases oi df
  exact ey results192 ⟨dK, rfl, dL⟩
 refine sr (lv (u3 rfl rfl) (av rfl (nq (B5 bg rfl (fun dM bl => ?_) (fun dM bl => ?_)))))
 ·refine k8 ?_
  obtain ⟨dN, dO, dP⟩ := ob bl
  refine j4 (IV w K [] K [(2, .bool dN)] []) ?_ ?_
  ·refine i7 (lv (l3 (ds := [V6 q0.Kind, sv q0.Field, V3 A a b, V6 q0.From, V6 q0.To, V3 B c d]) C3 rfl m0 f rfl rfl) ?_)
   obtain ⟨gd, dQ, dR⟩ := ob dO
   refine lk a6c (J2 F f.enter0 C k i l s m dQ) ?_
   rintro ge gg ⟨dS, rfl, ax⟩
   have aK := (f.c0 ax).t1
   refine mv rfl (bt dR (fun aa bm => ?_) (fun aa bm => ?_))
   ·refine lg aa (b8 Q1 rfl) (lg aa (l8 D9 rfl m0 aK rfl) ?_)
    obtain ⟨gj, dT, dU⟩ := ob bm
    refine x9 (wg rfl rfl aa) rfl (x8 (vs := [sv q0.Field]) a6e rfl) (D6 F aK.enter0 k dT) ?_
    rintro gk gl ⟨dV, rfl, aL⟩
    refine ⟨_, rfl, ?_⟩
    have aM := (aK.c0 aL).t1
    refine lv (j3 rfl aa rfl) (mv rfl (bt dU (fun ab bn => ?_) (fun ab bn => ?_)))
    ·refine lg ab (b8 X6 rfl) (lg ab (l8 D8 rfl m0 aM rfl) ?_)
     obtain ⟨gm, dW, dX⟩ := ob bn
     refine x9 (wg rfl rfl ab) rfl (x8 (vs := [V6 q0.From, V6 0, V6 999999999]) a4B rfl) (F0 F aM.enter0 l I0 (by decide : d9 999999999) dW) ?_
     rintro go gp ⟨dY, rfl, bo⟩
     refine ⟨_, rfl, ?_⟩
     have ay := (aM.c0 bo).t1
     refine lv (j3 rfl ab rfl) (mv rfl (bt dX (fun ac bp => ?_) (fun ac bp => ?_)))
     ·refine lg ac (b8 a14 rfl) (lg ac (l8 D8 rfl m0 ay rfl) (lg ac (b8 X6 rfl) (lg ac (l8 D8 rfl m0 ay rfl) ?_)))
      obtain ⟨gq, dZ, ea⟩ := ob bp
      refine x9 (wg rfl rfl ac) rfl (x8 (vs := [V6 q0.To, V6 q0.From, V6 999999999]) a4B rfl) (F0 F ay.enter0 s l (by decide : d9 999999999) dZ) ?_
      rintro gr gv ⟨eb, rfl, bP⟩
      refine ⟨_, rfl, ?_⟩
      have ec := (ay.c0 bP).t1
      refine lv (j3 rfl ac rfl) (av rfl (d7 ?_))
      cases oi ea
      exact qd ⟨eb, rfl, ec.s, (((ax.le.trans aL.le).trans bo.le).trans bP.le)⟩
     iterate 5 refine lu ac ?_
     refine lv (F7 rfl ac rfl) (av rfl (d7 ?_))
     cases oi bp
     exact qd ⟨dY, rfl, ay.s, ((ax.le.trans aL.le).trans bo.le)⟩
    refine lu ab (lu ab (lu ab (lv (F7 rfl ab rfl) (mv rfl ?_))))
    iterate 5 refine lu rfl ?_
    refine lv (F7 rfl rfl rfl) (av rfl (d7 ?_))
    cases oi bn
    exact qd ⟨dV, rfl, aM.s, (ax.le.trans aL.le)⟩
   refine lu aa (lu aa (lu aa (lv (F7 rfl aa rfl) (mv rfl (lu rfl (lu rfl (lu rfl (lv (F7 rfl rfl rfl) (mv rfl ?_)))))))))
   iterate 5 refine lu rfl ?_
   refine lv (F7 rfl rfl rfl) (av rfl (d7 ?_))
   cases oi bm
   exact qd ⟨dS, rfl, aK.s, ax.le⟩
  rintro _ gw ⟨ed, rfl, ee, gx⟩
  refine j6 (i9 (d8 (c9 ?_)))
  cases oi dP
  exact ey results192 ⟨ed, rfl, ee⟩
 refine k8 (sr (lv (u3 rfl rfl) (av rfl (nq ?_))))
 obtain ⟨ef, eg, eh⟩ := ob bl
 refine j4 (IV w K [] K [(1, pt aO), (3, V6 (q0.Kids.length : Int)), (8, V6 q0.Kind), (132, .bool ef)] [q8 aO [V6 q0.Kind, sv q0.Field, V3 A a b, V6 q0.From, V6 q0.To, V3 B c d] 42]) ?_ ?_
 ·refine B5 eg rfl (fun ei bq => ?_) (fun ei bq => ?_)
  ·refine i6 ?_
   cases oi bq
   exact qd ⟨K, rfl, f, kr⟩
  refine i7 (lv (u3 rfl rfl) (av rfl (d7 ?_)))
  cases oi bq
  exact qd ⟨K, rfl, f, kr⟩
 rintro _ gy ⟨aN, rfl, y, ar⟩
 refine j6 (B5 eh rfl (fun ej br => ?_) (fun ej br => ?_))
 ·refine k8 ?_
  obtain ⟨ek, el, em⟩ := ob br
  refine j4 (IV w K [] aN [(2, .bool ek)] []) ?_ ?_
  ·refine i7 (lv (l3 (ds := [V6 q0.Kind, sv q0.Field, V3 A a b, V6 q0.From, V6 q0.To, V3 B c d]) C3 rfl m0 y rfl rfl) ?_)
   obtain ⟨gz, en, eo⟩ := ob el
   refine lk a6c (J2 F y.enter0 C k (i.mono ar) l s (m.mono ar) en) ?_
   rintro gA gB ⟨ep, rfl, bs⟩
   have bu := (y.c0 bs).t1
   refine mv rfl (bt eo (fun ak bv => ?_) (fun ak bv => ?_))
   ·refine lg ak (d6 rfl) ?_
    obtain ⟨gC, eq, es⟩ := ob bv
    refine x9 (wg rfl rfl ak) rfl (x8 (vs := [V6 (q0.Kids.length : Int), V6 2, V6 4]) a4B rfl) (F0 F bu.enter0 m.rn (by decide : d9 2) (by decide : d9 4) eq) ?_
    rintro gD gE ⟨et, rfl, bQ⟩
    refine ⟨_, rfl, ?_⟩
    have eu := (bu.c0 bQ).t1
    refine lv (j3 rfl ak rfl) (av rfl (d7 ?_))
    cases oi es
    exact qd ⟨et, rfl, eu.s, (bs.le.trans bQ.le)⟩
   refine lu ak (lu ak (lv (F7 rfl ak rfl) (av rfl (d7 ?_))))
   cases oi bv
   exact qd ⟨ep, rfl, bu.s, bs.le⟩
  rintro _ gF ⟨ev, rfl, ew, gG⟩
  refine j6 (i9 (d8 (c9 ?_)))
  cases oi em
  exact ey results192 ⟨ev, rfl, ew⟩
 refine sr (lv (u3 rfl rfl) (av rfl (nq (B5 br rfl (fun ex bz => ?_) (fun ex bz => ?_)))))
 ·refine k8 ?_
  obtain ⟨eA, eB, eC⟩ := ob bz
  refine j4 (IV w K [] aN [(2, .bool eA)] []) ?_ ?_
  ·refine i7 (lv (l3 (ds := [V6 q0.Kind, sv q0.Field, V3 A a b, V6 q0.From, V6 q0.To, V3 B c d]) C3 rfl m0 y rfl rfl) ?_)
   obtain ⟨gH, eD, eE⟩ := ob eB
   refine lk a6c (J2 F y.enter0 C k (i.mono ar) l s (m.mono ar) eD) ?_
   rintro gI gJ ⟨bR, rfl, bA⟩
   have bS := (y.c0 bA).t1
   refine mv rfl (bt eE (fun al bB => ?_) (fun al bB => ?_))
   ·refine lg al (d6 rfl) (lg al (u3 rfl rfl) (lv (j3 rfl al rfl) (av rfl (d7 ?_))))
    cases oi bB
    exact qd ⟨bR, rfl, bS.s, bA.le⟩
   refine lu al (lu al (lv (F7 rfl al rfl) (av rfl (d7 ?_))))
   cases oi bB
   exact qd ⟨bR, rfl, bS.s, bA.le⟩
  rintro _ gK ⟨eF, rfl, eG, gL⟩
  refine j6 (i9 (d8 (c9 ?_)))
  cases oi eC
  exact ey results192 ⟨eF, rfl, eG⟩
 refine sr (lv (u3 rfl rfl) (av rfl (nq (B5 bz rfl (fun eH bC => ?_) (fun eH bC => ?_)))))
 ·refine k8 ?_
  obtain ⟨eI, eJ, eK⟩ := ob bC
  refine j4 (IV w K [] aN [(2, .bool eI)] []) ?_ ?_
  ·refine i7 (lv (l3 (ds := [V6 q0.Kind, sv q0.Field, V3 A a b, V6 q0.From, V6 q0.To, V3 B c d]) C3 rfl m0 y rfl rfl) ?_)
   obtain ⟨gM, eL, eM⟩ := ob eJ
   refine lk a6c (J2 F y.enter0 C k (i.mono ar) l s (m.mono ar) eL) ?_
   rintro gN gO ⟨bD, rfl, az⟩
   have am := (y.c0 az).t1
   refine mv rfl (bt eM (fun an bE => ?_) (fun an bE => ?_))
   ·refine lg an (d6 rfl) (lg an (u3 rfl rfl) (lv (j3 rfl an rfl) (mv rfl (bt bE (fun ad bF => ?_) (fun ad bF => ?_)))))
    ·refine lg ad (b8 a14 rfl) (lg ad (l8 D8 rfl m0 am rfl) (lg ad (u3 rfl rfl) (lv (j3 rfl ad rfl) (mv rfl (bt bF (fun ae bG => ?_) (fun ae bG => ?_))))))
     ·refine lg ae (b8 X6 rfl) (lg ae (l8 D8 rfl m0 am rfl) ?_)
      obtain ⟨gP, eN, eO⟩ := ob bG
      refine x9 (wg rfl rfl ae) rfl (x8 (vs := [V6 q0.From, V6 2, V6 9]) a4B rfl) (F0 F am.enter0 l (by decide : d9 2) (by decide : d9 9) eN) ?_
      rintro gQ gR ⟨eP, rfl, bT⟩
      refine ⟨_, rfl, ?_⟩
      have eQ := (am.c0 bT).t1
      refine lv (j3 rfl ae rfl) (av rfl (d7 ?_))
      cases oi eO
      exact qd ⟨eP, rfl, eQ.s, (az.le.trans bT.le)⟩
     refine lu ae (lu ae (lu ae (lv (F7 rfl ae rfl) (av rfl (d7 ?_)))))
     cases oi bG
     exact qd ⟨bD, rfl, am.s, az.le⟩
    refine lu ad (lu ad (lu ad (lv (F7 rfl ad rfl) (mv rfl (lu rfl (lu rfl (lu rfl (lv (F7 rfl rfl rfl) (av rfl ?_)))))))))
    refine d7 ?_
    cases oi bF
    exact qd ⟨bD, rfl, am.s, az.le⟩
   refine lu an (lu an (lv (F7 rfl an rfl) (mv rfl (lu rfl (lu rfl (lu rfl (lv (F7 rfl rfl rfl) (mv rfl (lu rfl ?_)))))))))
   refine lu rfl (lu rfl (lv (F7 rfl rfl rfl) (av rfl (d7 ?_))))
   cases oi bE
   exact qd ⟨bD, rfl, am.s, az.le⟩
  rintro _ gS ⟨eR, rfl, eS, gT⟩
  refine j6 (i9 (d8 (c9 ?_)))
  cases oi eK
  exact ey results192 ⟨eR, rfl, eS⟩
 refine i6 (o0 (qr (lv (M7 rfl) (nq (i9 ?_)))))
 cases oi bC
 exact ey results192 ⟨aN, rfl, y.s⟩

theorem b02 {q0 : List Int} {r : Bool} (hS : SH w K [] w K []) (i : b7 B7 K A a b q0) (hm : a2u F q0 = some r) :
  Calls prog 244 #[V3 A a b] w (R_b w K r) := by
 rw [a2u] at hm
 refine ci func244 rfl ntmps244 (sr (lv (M7 rfl) (P6 (lv (L3 rfl) (nq ?_)))))
 obtain ⟨H, I, k⟩ := ob hm
 refine j4 (IE H w K [] K [(0, V3 A a b)] []) ?_ ?_
 ·refine i5 ?_
  obtain ⟨aP, J, x⟩ := ob I
  refine qw (fun (l : Int) => IW w K [] K [(0, V3 A a b), (3, V6 l)] [] (d9 l)) J ⟨K, rfl, hS, kr, I0⟩ ?_
  rintro l _ aQ aR O y ⟨B, rfl, C, f, aS⟩
  refine k8 (sr (mv rfl (mv rfl (lv (k9 underlying55 rfl (i.mono f)) (lv (n8 rfl rfl) (nq (B5 O rfl (fun R m => ?_) (fun R m => ?_))))))))
  ·refine i6 (qs (i5 (k8 ?_)))
   obtain ⟨S, T, U⟩ := ob m
   refine j4 (IV w K [] B [(0, V3 A a b), (3, V6 l), (31, .bool S)] []) ?_ ?_
   ·refine C2 mixed (by kernel_rfl) C (km rfl (km rfl ?_))
    obtain ⟨V, W, X⟩ := ob T
    refine ki underlying55 D8 (i.mono f) W fun Y aa aT ab ac => ?_
    obtain ⟨rfl, ad⟩ := ab
    have ae : D0 _ Y aa [V6 V] := ac
    refine kh (z8 D8 rfl (ae 0 _ rfl)) ?_
    obtain ⟨aU, af, ag⟩ := ob X
    refine kc a4B (fun _ _ ah aV => (F0 F) ah.enter0 ad I0 (by decide : d9 999999999) af) (kv (y4 rfl) (km rfl (bt ag (fun d o => ?_) (fun d o => ?_))))
    ·refine kn d (kn d (kn d ?_))
     iterate 10 refine ku ?_
     refine kn d (kv (K5 rfl d rfl) (z7 ?_))
     rintro aW ⟨ai, aj, ak⟩
     cases oi o
     exact qd ⟨ai, rfl, aj, ak⟩
    refine kg d (d6 rfl) (kg d (E5 rfl rfl) (kg d (d6 rfl) (bt o (fun c q => ?_) (fun c q => ?_))))
    ·refine kg c (d6 rfl) (kg c (d6 rfl) ?_)
     obtain ⟨al, am, an⟩ := ob q
     refine B4 (t := B7) (wg rfl rfl c) rfl underlying55 D8 rfl rfl (i.mono f) am fun ao ap aX aq ar => ?_
     obtain ⟨rfl, aY⟩ := aq
     have au : D0 _ ao ap [V6 al] := ar
     refine kgh c (z8 D8 rfl (au 0 _ rfl)) (kg c (d6 rfl) (kg c (d6 rfl) (kg c (F2 rfl rfl) ?_)))
     obtain ⟨aw, ax, ay⟩ := ob an
     refine B4 (t := B7) (wg rfl rfl c) rfl underlying55 D8 rfl rfl (i.mono f) ax fun az aA aZ aB aC => ?_
     obtain ⟨rfl, ba⟩ := aB
     have aD : D0 _ az aA [V6 aw] := aC
     refine kgh c (z8 D8 rfl (aD 0 _ rfl)) (kg c (R9 rfl rfl) (kg d (j3 rfl c rfl) (kv (j9 rfl d rfl) (z7 ?_))))
     rintro bb ⟨aE, aF, aG⟩
     cases oi ay
     exact qd ⟨aE, rfl, aF, aG⟩
    iterate 10 refine kn c ?_
    refine kg d (F7 rfl c rfl) (kv (j9 rfl d rfl) (z7 ?_))
    rintro bc ⟨aH, aI, aJ⟩
    cases oi q
    exact qd ⟨aH, rfl, aI, aJ⟩
   rintro _ w32 ⟨D, rfl, G, aK⟩
   refine j6 (B5 U rfl (fun aL s => ?_) (fun aL s => ?_))
   ·refine sr (lv (M7 rfl) (nq (i9 (d8 (c9 (c9 ?_))))))
    cases oi s
    cases y _ rfl
    refine d8 (c9 ?_)
    cases oi x
    refine c9 ?_
    cases oi k
    exact ey results244 ⟨D, rfl, G⟩
   refine i6 (o0 (j6 (i7 (mv rfl (lv (s6 rfl rfl) (av rfl (d7 ?_)))))))
   cases oi s
   exact qd ⟨_, rfl, D, rfl, G, (f.trans aK), (l9 _)⟩
  refine q7 (d4 (d4 ?_))
  cases oi m
  cases y _ rfl
  refine j5 ?_
  cases oi x
  exact qd ⟨_, B, rfl, rfl, C, f⟩
 rintro _ bd ⟨s8, K9, rfl, rfl, aN, aO⟩
 have k := C8 k
 refine qr (mv rfl (lv (k9 underlying55 rfl (i.mono aO)) (lv (R9 rfl rfl) (av rfl (nq (i9 ?_))))))
 cases oi k
 exact ey results244 ⟨K9, rfl, aN⟩

theorem a9l (F : Nat) : ∀ {w : World} {K : C5} {d : Option Addr} {f i : Nat} {q0 : List (List Int)} {q1 : Int} {q2 : Int} {q3 : Int} {q4 : Int} {r : Bool} (hS : SH w K [] w K []) (c : b7 (O4 B7) K d f i q0) (R : d9 q1) (S : d9 q2) (B : d9 q3) (C : d9 q4) (hm : Q8 F q0 q1 q2 q3 q4 = some r),
  Calls prog 245 #[V3 d f i, V6 q1, V6 q2, V6 q3, V6 q4] w (R_b w K r) := by
 induction F with
 | zero => intros; rename_i hm; rw [Q8] at hm; cases hm
 | succ F ih =>
  intro w K d f i q0 q1 q2 q3 q4 r hS c R S B C hm
  rw [Q8] at hm
  refine ci func245 rfl ntmps245 (sr (lv (M7 rfl) (P6 (mv rfl (mv rfl (lv (k9 (t := (O4 B7)) underlying211 rfl c) (lv (u3 rfl rfl) (nq (S3 rfl (fun o => ?_) (fun o => ?_))))))))))
  ·have q := a1R o hm
   refine sr (mv rfl (mv rfl (lv (F2 rfl rfl) (mv rfl (lv (k9 (t := (O4 B7)) underlying211 rfl c) (lv (F2 rfl rfl) (lv (F2 rfl rfl) (mv rfl (lv (R9 rfl rfl) ?_)))))))))
   obtain ⟨bn, T, U⟩ := ob q
   have V := oi T
   refine lv (b3O rfl (congrArg (Value.bool) V)) (nq (rr ?_))
   cases oi U
   exact ey results245 ⟨K, rfl, hS⟩
  have q := a1Q o hm
  refine i6 (qs (sr (lv (L3 rfl) (nq ?_))))
  obtain ⟨W, X, l⟩ := ob q
  refine j4 (IE W w K [] K [] []) ?_ ?_
  ·refine i5 ?_
   obtain ⟨bo, Y, D⟩ := ob X
   refine qw (fun (m : Int) => IW w K [] K [(0, V3 d f i), (1, V6 q1), (2, V6 q2), (3, V6 q3), (4, V6 q4), (11, V6 m)] [] (d9 m)) Y ⟨K, rfl, hS, kr, I0⟩ ?_
   rintro m _ bp bq aa G ⟨s, rfl, b, k, br⟩
   refine k8 (sr (mv rfl (mv rfl (mv rfl ?_))))
   obtain ⟨bs, ab, ac⟩ := ob aa
   refine li underlying211 Y3 (c.mono k) ab fun ad ae bu af ag => ?_
   obtain ⟨ah, ai, aj, rfl, ak⟩ := af
   have al : D0 _ ad ae [V3 ah ai aj] := ag
   refine lv (u0 Y3 rfl b (al 0 _ rfl)) (lv (k9 underlying55 rfl ak) (lv (n8 rfl rfl) (nq (B5 ac rfl (fun am x => ?_) (fun am x => ?_)))))
   ·refine i6 (qs (i5 (k8 ?_)))
    obtain ⟨an, ao, ap⟩ := ob x
    refine j4 (IV w K [] s [(0, V3 d f i), (1, V6 q1), (2, V6 q2), (3, V6 q3), (4, V6 q4), (11, V6 m), (57, .bool an)] []) ?_ ?_
    ·refine i7 (mv rfl (mv rfl ?_))
     obtain ⟨bv, aq, ar⟩ := ob ao
     refine li underlying211 Y3 (c.mono k) aq fun au aw bx ax ay => ?_
     obtain ⟨az, aA, aB, rfl, aC⟩ := ax
     have aD : D0 _ au aw [V3 az aA aB] := ay
     refine lv (u0 Y3 rfl b (aD 0 _ rfl)) (mv rfl ?_)
     obtain ⟨aE, aF, aG⟩ := ob ar
     refine li underlying55 D8 aC aF fun aH aI bz aJ aK => ?_
     obtain ⟨rfl, bA⟩ := aJ
     have aL : D0 _ aH aI [V6 aE] := aK
     refine lv (u0 D8 rfl b (aL 0 _ rfl)) (mv rfl (lv (E5 rfl rfl) (mv rfl (bt aG (fun a y => ?_) (fun a y => ?_)))))
     ·refine lg a (d6 rfl) (lg a (d6 rfl) (lg a (s6 rfl rfl) (lg a (d6 rfl) (lg a (d6 rfl) ?_))))
      obtain ⟨bB, aM, aN⟩ := ob y
      refine H1 (t := (O4 B7)) (wg rfl rfl a) rfl underlying211 Y3 rfl rfl (c.mono k) aM fun aO aP bC aQ aR => ?_
      obtain ⟨aS, aT, aU, rfl, aV⟩ := aQ
      have aW : D0 _ aO aP [V3 aS aT aU] := aR
      refine lg a (u0 Y3 rfl b (aW 0 _ rfl)) (lg a (d6 rfl) ?_)
      obtain ⟨H, aX, aY⟩ := ob aN
      refine H1 (t := B7) (wg rfl rfl a) rfl underlying55 D8 rfl rfl aV aX fun aZ ba bD bb bc => ?_
      obtain ⟨rfl, bd⟩ := bb
      have be : D0 _ aZ ba [V6 H] := bc
      refine lg a (u0 D8 rfl b (be 0 _ rfl)) (lg a (d6 rfl) (lg a (d6 rfl) ?_))
      obtain ⟨bE, bf, bg⟩ := ob aY
      refine x9 (wg rfl rfl a) rfl (x8 (vs := [V3 d f i, V6 (u6 (q1 + (1 : Int))), V6 H, V6 q3, V6 q4]) b7B rfl) (ih b.enter0 (c.mono k) (l9 _) bd B C bf) ?_
      rintro bF bG ⟨bh, rfl, I⟩
      refine ⟨_, rfl, ?_⟩
      have bi := (b.c0 I).t0
      refine lv (j3 rfl a rfl) (d7 ?_)
      cases oi bg
      exact qd ⟨bh, rfl, bi, I.le⟩
     iterate 13 refine lu a ?_
     refine lv (F7 rfl a rfl) (d7 ?_)
     cases oi y
     exact qd ⟨s, rfl, b, kr⟩
    rintro _ bH ⟨J, rfl, O, bj⟩
    refine j6 (B5 ap rfl (fun bk A => ?_) (fun bk A => ?_))
    ·refine sr (lv (r_t rfl) (nq (i9 (d8 (c9 (c9 ?_))))))
     cases oi A
     cases G _ rfl
     refine d8 (c9 ?_)
     cases oi D
     refine c9 ?_
     cases oi l
     exact ey results245 ⟨J, rfl, O⟩
    refine i6 (o0 (j6 (i7 (mv rfl (lv (s6 rfl rfl) (av rfl (d7 ?_)))))))
    cases oi A
    exact qd ⟨_, rfl, J, rfl, O, (k.trans bj), (l9 _)⟩
   refine q7 (d4 (d4 ?_))
   cases oi x
   cases G _ rfl
   refine j5 ?_
   cases oi D
   exact H9 ⟨_, s, rfl, rfl, b, k⟩ trivial
  rintro _ bI ⟨bJ, bl, rfl, rfl, bm, bK⟩
  have l := C8 l
  refine qr (lv (M7 rfl) (nq (i9 ?_)))
  cases oi l
  exact ey results245 ⟨bl, rfl, bm⟩

theorem a67 {q0 : List (List Int)} {q1 : Int} {r : (List Int)} (hS : SH w K [] w K []) (c : b7 (O4 B7) K A a b q0) (ah : d9 q1) (hm : Y9 F q0 q1 = some r) :
  Calls prog 194 #[V3 A a b, V6 q1] w fun e w' => ∃ a_1 n_2 c_3 K', e = .returned (V3 a_1 n_2 c_3) ∧ SH w K [] w' K' [tail (V3 a_1 n_2 c_3) 3 1] ∧ b7 B7 K' a_1 n_2 c_3 r := by
 rw [Y9] at hm
 refine ci func194 rfl ntmps194 (sr (lv (r_n rfl) (nr (b0 B7 underlying55 D8 hS fun l w7 U d ar au => (av rfl (P6 (lv (L3 rfl) (nq ?_))))))))
 obtain ⟨aw, ax, H⟩ := ob hm
 refine j4 (IE aw w K [] U [(0, V3 A a b), (1, V6 q1), (5, V3 l 0 0)] [tail (V3 l 0 0) 3 1]) ?_ ?_
 ·refine i5 ?_
  obtain ⟨dd, ay, ai⟩ := ob ax
  refine qw (fun (V : Int) => IW w K [] U [(0, V3 A a b), (1, V6 q1), (5, V3 l 0 0), (6, V6 V)] [tail (V3 l 0 0) 3 1] (d9 V)) ay ⟨U, rfl, au, kr, I0⟩ ?_
  rintro V _ de df az aj ⟨aA, rfl, I, J, dg⟩
  refine k8 (sr (mv rfl (mv rfl (lv (k9 (t := (O4 B7)) underlying211 rfl (c.mono (d.trans J))) (lv (n8 rfl rfl) (nq (B5 az rfl (fun aB W => ?_) (fun aB W => ?_))))))))
  ·refine i6 (qs (i5 (sr (mv rfl (mv rfl ?_)))))
   obtain ⟨dh, aC, aD⟩ := ob W
   refine li underlying211 Y3 (c.mono (d.trans J)) aC fun aE aF di aG aH => ?_
   obtain ⟨aI, aJ, aK, rfl, aL⟩ := aG
   have aM : D0 _ aE aF [V3 aI aJ aK] := aH
   refine lv (u0 Y3 rfl I (aM 0 _ rfl)) ?_
   obtain ⟨dj, aN, aO⟩ := ob aD
   refine lk b9w (b02 F I.enter0 aL aN) ?_
   rintro dk dl ⟨ak, rfl, al⟩
   have am := (I.c0 al).t1
   refine lv (y4 rfl) (nq (B5 aO rfl (fun aP X => ?_) (fun aP X => ?_)))
   ·refine sr (lv (r_n rfl) (nq (i9 (d8 (c9 (c9 ?_))))))
    cases oi X
    cases aj _ rfl
    refine d8 (c9 ?_)
    cases oi ai
    refine c9 ?_
    cases oi H
    have aQ := am.nil 3 1
    exact ey results194 ⟨none, 0, 0, ak, rfl, aQ.s, (b7.nil _ _)⟩
   refine i6 (o0 (j6 (i7 (mv rfl (lv (s6 rfl rfl) (av rfl (d7 ?_)))))))
   cases oi X
   exact qd ⟨_, rfl, ak, rfl, am, (J.trans al.le), (l9 _)⟩
  refine q7 (d4 (d4 ?_))
  cases oi W
  cases aj _ rfl
  refine j5 ?_
  cases oi ai
  exact qd ⟨_, aA, rfl, rfl, I, J⟩
 rintro _ dm ⟨dn, aR, rfl, rfl, an, i⟩
 have H := C8 H
 refine qs (k8 ?_)
 obtain ⟨aS, aT, aU⟩ := ob H
 refine j4 (IV w K [] aR [(0, V3 A a b), (1, V6 q1), (5, V3 l 0 0), (29, .bool aS)] [tail (V3 l 0 0) 3 1]) ?_ ?_
 ·refine i7 (mv rfl (lv (k9 (t := (O4 B7)) underlying211 rfl (c.mono (d.trans i))) ?_))
  obtain ⟨dp, aV, aW⟩ := ob aT
  refine lk a4B (F0 F an.enter0 (c.mono (d.trans i)).rn (by decide : d9 1) (by decide : d9 6) aV) ?_
  rintro dq dr ⟨aX, rfl, Y⟩
  have aa := (an.c0 Y).t1
  refine lv (y4 rfl) (mv rfl (bt aW (fun f ab => ?_) (fun f ab => ?_)))
  ·refine lu f (lu f (lu f (lv (K5 rfl f rfl) (d7 ?_))))
   cases oi ab
   exact qd ⟨aX, rfl, aa, Y.le⟩
  refine lg f (d6 rfl) ?_
  obtain ⟨ds, aY, aZ⟩ := ob ab
  refine x9 (wg rfl rfl f) rfl (x8 (vs := [V6 q1, V6 0, V6 5]) a4B rfl) (F0 F aa.enter0 ah I0 (by decide : d9 5) aY) ?_
  rintro dt du ⟨ba, rfl, ao⟩
  refine ⟨_, rfl, ?_⟩
  have bb := (aa.c0 ao).t1
  refine lg f (y4 rfl) (lv (j9 rfl f rfl) (d7 ?_))
  cases oi aZ
  exact qd ⟨ba, rfl, bb, (Y.le.trans ao.le)⟩
 rintro _ dv ⟨O, rfl, ap, m⟩
 refine j6 (B5 aU rfl (fun bc ac => ?_) (fun bc ac => ?_))
 ·refine sr (lv (r_n rfl) (nq (rr ?_)))
  cases oi ac
  have bd := ap.nil 3 1
  exact ey results194 ⟨none, 0, 0, O, rfl, bd.s, (b7.nil _ _)⟩
 refine i6 (qs (sr (lv (L3 rfl) (nq ?_))))
 obtain ⟨be, bf, bg⟩ := ob ac
 refine j4 (fun E' w' => ∃ x y B C, E' = [(5, V3 x y B)] ∧ SH w K [] w' C [tail (V3 x y B) 3 1] ∧ H6 O C ∧ b7 B7 C x y B be) ?_ ?_
 ·refine i5 ?_
  obtain ⟨dw, bh, bi⟩ := ob bf
  refine qw (fun (R : (List Int) × Int) E' w' => ∃ o q s D, E' = [(0, V3 A a b), (1, V6 q1), (5, V3 o q s), (7, V6 R.2)] ∧ SH w K [] w' D [tail (V3 o q s) 3 1] ∧ H6 O D ∧ b7 B7 D o q s R.1 ∧ d9 R.2) bh ⟨l, 0, 0, O, rfl, ap, kr, (ar.mono (i.trans m)), I0⟩ ?_
  rintro R _ dx dy bj bk ⟨o, q, s, D, rfl, ad, k, ae, dz⟩
  refine k8 (sr (mv rfl (mv rfl ?_)))
  obtain ⟨dA, bl, bm⟩ := ob bj
  refine li underlying211 Y3 (b7.mono (((d.trans i).trans m).trans k) c) bl fun bn bo dB bp bq => ?_
  obtain ⟨br, bs, bu, rfl, bv⟩ := bp
  have bx : D0 _ bn bo [V3 br bs bu] := bq
  refine lv (u0 Y3 rfl ad (bx 0 _ rfl)) (lv (k9 underlying55 rfl bv) (lv (n8 rfl rfl) (nq (B5 bm rfl (fun bz af => ?_) (fun bz af => ?_)))))
  ·refine i6 (qs (i5 (k8 (C2 mixed (by kernel_rfl) ad (km rfl (km rfl ?_))))))
   obtain ⟨dC, bA, bB⟩ := ob af
   refine ki underlying211 Y3 (b7.mono (((d.trans i).trans m).trans k) c) bA fun bC bD dD bE bF => ?_
   obtain ⟨bG, bH, bI, rfl, bJ⟩ := bE
   have bK : D0 _ bC bD [V3 bG bH bI] := bF
   refine kh (z8 Y3 rfl (bK 0 _ rfl)) (km rfl ?_)
   obtain ⟨bL, bM, bN⟩ := ob bB
   refine ki underlying55 D8 bJ bM fun bO bP dE bQ bR => ?_
   obtain ⟨rfl, bS⟩ := bQ
   have bT : D0 _ bO bP [V6 bL] := bR
   refine kh (z8 D8 rfl (bT 0 _ rfl)) (km rfl ?_)
   obtain ⟨dF, bU, bV⟩ := ob bN
   refine ki underlying211 Y3 (b7.mono (((d.trans i).trans m).trans k) c) bU fun bW bX dG bY bZ => ?_
   obtain ⟨ca, cb, cc, rfl, cd⟩ := bY
   have ce : D0 _ bW bX [V3 ca cb cc] := bZ
   refine kh (z8 Y3 rfl (ce 0 _ rfl)) (km rfl ?_)
   obtain ⟨cf, cg, ch⟩ := ob bV
   refine ki underlying55 D8 cd cg fun cj ck dH cl cm => ?_
   obtain ⟨rfl, cn⟩ := cl
   have cp : D0 _ cj ck [V6 cf] := cm
   refine kh (z8 D8 rfl (cp 0 _ rfl)) (km rfl ?_)
   obtain ⟨dI, cq, cr⟩ := ob ch
   refine kc b7B (fun _ _ cs ct => (a9l F) cs.enter0 (b7.mono ((((d.trans i).trans m).trans k).trans ct) c) (by decide : d9 1) bS cn ah cq) (z7 ?_)
   rintro dJ ⟨cu, S, G⟩
   refine j6 (B5 cr rfl (fun cv ag => ?_) (fun cv ag => ?_))
   ·refine i7 (mv rfl (mv rfl ?_))
    obtain ⟨dK, cw, cx⟩ := ob ag
    refine li underlying211 Y3 (b7.mono ((((d.trans i).trans m).trans k).trans G) c) cw fun cy cz dL cA cB => ?_
    obtain ⟨cC, cD, cE, rfl, cF⟩ := cA
    have cG : D0 _ cy cz [V3 cC cD cE] := cB
    refine lv (u0 Y3 rfl S (cG 0 _ rfl)) (mv rfl ?_)
    obtain ⟨T, cH, cI⟩ := ob cx
    refine li underlying55 D8 cF cH fun cJ cK dM cL cM => ?_
    obtain ⟨rfl, cN⟩ := cL
    have cO : D0 _ cJ cK [V6 T] := cM
    refine lv (u0 D8 rfl S (cO 0 _ rfl)) (lb B7 (V6 T) [V6 T] T underlying55 D8 ⟨rfl, cN⟩ S fun dN dO dP aq cP cQ => ?_)
    obtain ⟨dQ, cR, cS⟩ := ob cI
    refine lp underlying55 D8 (ae.mono (G.trans aq)) cP cR cQ.f1 fun cT cU cV dR cW cX cY cZ => (av rfl (nb (j6 (i7 (mv rfl (lv (s6 rfl rfl) (av rfl (d7 ?_))))))))
    cases oi cS
    exact qd ⟨_, rfl, cT, cU, cV, cW, rfl, cZ.s, (((k.trans G).trans aq).trans cX), cY, (l9 _)⟩
   refine i6 (o0 (j6 (i7 (mv rfl (lv (s6 rfl rfl) (av rfl (d7 ?_)))))))
   cases oi ag
   exact qd ⟨_, rfl, o, q, s, cu, rfl, S, (k.trans G), (ae.mono G), (l9 _)⟩
  refine q7 (d4 (d4 ?_))
  cases oi af
  cases bk _ rfl
  refine j5 ?_
  cases oi bi
  exact qd ⟨o, q, s, D, rfl, ad, k, ae⟩
 rintro _ dS ⟨x, y, B, C, rfl, da, dT, db⟩
 refine qr (mv rfl (av rfl (nq (i9 ?_))))
 cases oi bg
 exact ey results194 ⟨x, y, B, C, rfl, da, db⟩
end Go.Proofs.YtmkhlppjphodfaaGreatDoor
