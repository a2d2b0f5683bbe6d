/-
 Walks of the functions. Printed by gen.py.
-/
import Derived.Test.YtmkhlppjphodfaaGreatDoorFacts
set_option linter.unusedVariables false
set_option linter.unusedSectionVars false
set_option maxRecDepth 100000
namespace Go.Proofs.YtmkhlppjphodfaaGreatDoor
set_option maxHeartbeats 4000000
open Go Go.Fk Go.RowKit Tryz
variable (F : Nat) {w : World} {K : C5} {Z : List Nat} {g1 g2 g3 : Nat} {A B C D G H I J O R S T : Option Addr} {a b c d f i k l m n o p q s v x y aa ab ac ad ae af ag : Nat}
variable [dr : Dr]

theorem A7 {q0 : Int} {q1 : Int} {q2 : Int} {r : Bool} (hS : SH w K [] w K []) (c : d9 q0) (d : d9 q1) (f : d9 q2) (hm : y6 F q0 q1 q2 = some r) :
  Calls prog 58 #[V6 q0, V6 q1, V6 q2] w (R_b w K r) := by
 rw [y6] at hm
 refine ci func58 rfl ntmps58 (sr (lv (M7 rfl) (nr (mv rfl (mv rfl (lv (a2F rfl rfl) (mv rfl (bt hm (fun a b => ?_) (fun a b => ?_)))))))))
 ·refine lg a (d6 rfl) (lg a (d6 rfl) (lg a (R9 rfl rfl) (lv (j3 rfl a rfl) (av rfl (nq (i9 ?_))))))
  cases oi b
  exact ey results58 ⟨K, rfl, hS⟩
 refine lu a (lu a (lu a (lv (F7 rfl a rfl) (av rfl (nq (i9 ?_))))))
 cases oi b
 exact ey results58 ⟨K, rfl, hS⟩

theorem a0Z {q0 : UInt8} {r : Bool} (hS : SH w K [] w K []) (hm : M5 F q0 = some r) :
  Calls prog 106 #[iv8 q0] w (R_b w K r) := by
 rw [M5] at hm
 refine ci func106 rfl ntmps106 (sr (lv (M7 rfl) (nr (mv rfl (lv (a42 (b := (97 : UInt8)) rfl rfl) (mv rfl (bt hm (fun c i => ?_) (fun c i => ?_))))))))
 ·refine lg c (d6 rfl) (lg c (a43 (b := (122 : UInt8)) rfl rfl) (lv (j3 rfl c rfl) (mv rfl (bt i (fun a k => ?_) (fun a k => ?_)))))
  ·refine lu a (lu a (lu a (u1 (uu rfl rfl) rfl (u1 (uu rfl rfl) rfl (lu a (lv (K5 rfl a rfl) (av rfl (nq (i9 ?_)))))))))
   cases oi k
   exact ey results106 ⟨K, rfl, hS⟩
  refine lg a (d6 rfl) (lg a (a42 (b := (48 : UInt8)) rfl rfl) (lg a (d6 rfl) (bt k (fun d l => ?_) (fun d l => ?_))))
  ·refine lg d (d6 rfl) (lg d (a43 (b := (57 : UInt8)) rfl rfl) (lg a (j3 rfl d rfl) (lv (j9 rfl a rfl) (av rfl (nq (i9 ?_))))))
   cases oi l
   exact ey results106 ⟨K, rfl, hS⟩
  refine lu d (lu d (lg a (F7 rfl d rfl) (lv (j9 rfl a rfl) (av rfl (nq (i9 ?_))))))
  cases oi l
  exact ey results106 ⟨K, rfl, hS⟩
 refine lu c (lu c (lv (F7 rfl c rfl) (mv rfl (lg rfl (d6 rfl) (lg rfl (a42 (b := (48 : UInt8)) rfl rfl) (lg rfl (d6 rfl) (bt i (fun f m => ?_) (fun f m => ?_))))))))
 ·refine lg f (d6 rfl) (lg f (a43 (b := (57 : UInt8)) rfl rfl) (lg rfl (j3 rfl f rfl) (lv (j9 rfl rfl rfl) (av rfl (nq (i9 ?_))))))
  cases oi m
  exact ey results106 ⟨K, rfl, hS⟩
 refine lu f (lu f (lg rfl (F7 rfl f rfl) (lv (j9 rfl rfl rfl) (av rfl (nq (i9 ?_))))))
 cases oi m
 exact ey results106 ⟨K, rfl, hS⟩

theorem E9 {q0 : k6} {r : Bool} (hS : SH w K [] w K []) (f : q0.length ≤ maxLen) (hm : D7 F q0 = some r) :
  Calls prog 59 #[sv q0] w (R_b w K r) := by
 rw [D7] at hm
 refine ci func59 rfl ntmps59 (sr (lv (M7 rfl) (P6 (mv rfl (lv (F1 underlying9 rfl) (lv (r_m rfl) (nq ?_)))))))
 obtain ⟨y, A, a⟩ := ob hm
 refine j4 (IE y w K [] K [(0, sv q0)] []) ?_ ?_
 ·refine i5 ?_
  obtain ⟨Y, B, i⟩ := ob A
  refine qf (fun (k : Nat) (l : Unit) => IV w K [] K [(0, sv q0), (5, V6 (q0.length : Int)), (6, V6 ((k : Nat) : Int))] []) B ⟨K, rfl, hS, kr⟩ ?_ ?_
  ·rintro k l _ C aa hi20 D G ⟨m, rfl, b, c⟩
   refine sr (lv (n8 rfl rfl) (ns (A3 rfl (c7 (by omega)) (i6 (j6 (k8 (i5 (sr (mv rfl (av rfl (nr (mv rfl ?_))))))))))))
   refine mv rfl ?_
   obtain ⟨ab, H, I⟩ := ob D
   refine lv (G8 underlying9 rfl rfl H) ?_
   obtain ⟨ac, J, O⟩ := ob I
   refine lk b3r (a0Z F b.enter0  J) ?_
   rintro ad ae ⟨o, rfl, q⟩
   have s := (b.c0 q).t0
   refine lv (y4 rfl) (nq (B5 O rfl (fun R d => ?_) (fun R d => ?_)))
   ·refine sr (lv (M7 rfl) (nq (i9 (d8 (c9 (c9 ?_))))))
    cases oi d
    cases G _ rfl
    refine d8 (c9 ?_)
    cases oi i
    refine c9 ?_
    cases oi a
    exact ey results59 ⟨o, rfl, s⟩
   refine i6 (o0 (qg (lv (y3 rfl rfl (A0 hi20 f)) (mv rfl (d7 ?_)))))
   cases oi d
   exact qd ⟨_, rfl, o, rfl, s, (c.trans q.le)⟩
  rintro l _ C S ⟨m, rfl, b, c⟩
  subst S
  refine sr (lv (n8 rfl rfl) (ns (A2 rfl (c6 (by omega)) (q7 (d4 (d4 (j5 ?_)))))))
  cases oi i
  exact qd ⟨_, m, rfl, rfl, b, c⟩
 rintro _ w8 ⟨s5, K6, rfl, rfl, x, ai⟩
 have a := C8 a
 refine qr (mv rfl (lv (F1 underlying9 rfl) ?_))
 obtain ⟨aj, T, U⟩ := ob a
 refine lk a2W (A7 F x.enter0 (a3o f) (by decide : d9 1) (by decide : d9 12) T) ?_
 rintro ak al ⟨V, rfl, W⟩
 have X := (x.c0 W).t0
 refine av rfl (nq (i9 ?_))
 cases oi U
 exact ey results59 ⟨V, rfl, X⟩

theorem a5t {q0 : List k6} {r : Bool} (hS : SH w K [] w K []) (l : b7 B8 K A a b q0) (hm : R2 F q0 = some r) :
  Calls prog 57 #[V3 A a b] w (R_b w K r) := by
 rw [R2] at hm
 refine ci func57 rfl ntmps57 (sr (lv (M7 rfl) (P6 (mv rfl (lv (k9 underlying23 rfl l) (lv (r_m rfl) (nq ?_)))))))
 obtain ⟨J, O, m⟩ := ob hm
 refine j4 (IE J w K [] K [] []) ?_ ?_
 ·refine i5 ?_
  obtain ⟨aA, R, D⟩ := ob O
  refine qf (fun (q : Nat) (G : Unit) => IV w K [] K [(0, V3 A a b), (5, V3 A a b), (6, V6 (q0.length : Int)), (7, V6 ((q : Nat) : Int))] []) R ⟨K, rfl, hS, kr⟩ ?_ ?_
  ·rintro q G _ S aB hi23 T U ⟨s, rfl, f, i⟩
   refine sr (lv (n8 rfl rfl) (ns (A3 rfl (c7 (by omega)) (i6 (j6 (k8 (i5 (sr (mv rfl ?_)))))))))
   obtain ⟨V, W, X⟩ := ob T
   refine li underlying23 D9 (l.mono i) W fun Y aa aC ab ac => ?_
   obtain ⟨rfl, ad⟩ := ab
   have ae : D0 _ Y aa [sv V] := ac
   refine lv (u0 D9 rfl f (ae 0 _ rfl)) (av rfl (av rfl (ns ?_)))
   obtain ⟨af, ag, ah⟩ := ob X
   refine j4 (IV w K [] s [(0, V3 A a b), (5, V3 A a b), (6, V6 (q0.length : Int)), (7, V6 ((q : Nat) : Int)), (27, .bool af)] []) ?_ ?_
   ·refine i7 (mv rfl ?_)
    obtain ⟨aD, ai, aj⟩ := ob ag
    refine lk a6d (E9 F f.enter0 ad ai) ?_
    rintro aE aF ⟨x, rfl, k⟩
    have o := (f.c0 k).t0
    refine lv (y4 rfl) (mv rfl (bt aj (fun c y => ?_) (fun c y => ?_)))
    ·refine lu c (lu c (lu c (u1 (uu rfl rfl) rfl (u1 (uu rfl rfl) rfl (u1 (uu rfl rfl) rfl (u1 (uu rfl rfl) rfl (u1 (uu rfl rfl) rfl (u1 (uu rfl rfl) rfl (u1 (uu rfl rfl) rfl ?_)))))))))
     refine lu c (lv (K5 rfl c rfl) (d7 ?_))
     cases oi y
     exact qd ⟨x, rfl, o, k.le⟩
    refine lg c (d6 rfl) (lg c (E5 rfl rfl) (lg c (d6 rfl) (bt y (fun d B => ?_) (fun d B => ?_))))
    ·refine lg d (d6 rfl) (lg d (d6 rfl) (lg d (F2 rfl rfl) ?_))
     obtain ⟨ak, al, am⟩ := ob B
     refine H1 (t := B8) (wg rfl rfl d) rfl underlying23 D9 rfl rfl (l.mono (i.trans k.le)) al fun an ao aG ap aq => ?_
     obtain ⟨rfl, aH⟩ := ap
     have ar : D0 _ an ao [sv ak] := aq
     refine lg d (u0 D9 rfl o (ar 0 _ rfl)) (lg d (d6 rfl) (lg d (b07 rfl rfl) (lg c (j3 rfl d rfl) (lv (j9 rfl c rfl) (d7 ?_)))))
     cases oi am
     exact qd ⟨x, rfl, o, k.le⟩
    iterate 7 refine lu d ?_
    refine lg c (F7 rfl d rfl) (lv (j9 rfl c rfl) (d7 ?_))
    cases oi B
    exact qd ⟨x, rfl, o, k.le⟩
   rintro _ aI ⟨H, rfl, I, au⟩
   refine j6 (B5 ah rfl (fun aw C => ?_) (fun aw C => ?_))
   ·refine sr (lv (M7 rfl) (nq (i9 (d8 (c9 (c9 ?_))))))
    cases oi C
    cases U _ rfl
    refine d8 (c9 ?_)
    cases oi D
    refine c9 ?_
    cases oi m
    exact ey results57 ⟨H, rfl, I⟩
   refine i6 (o0 (qg (lv (y3 rfl rfl (A0 hi23 (b7.max l))) (mv rfl (d7 ?_)))))
   cases oi C
   exact qd ⟨_, rfl, H, rfl, I, (i.trans au)⟩
  rintro G _ S ax ⟨s, rfl, f, i⟩
  subst ax
  refine sr (lv (n8 rfl rfl) (ns (A2 rfl (c6 (by omega)) (q7 (d4 (d4 (j5 ?_)))))))
  cases oi D
  exact H9 ⟨_, s, rfl, rfl, f, i⟩ trivial
 rintro _ aJ ⟨s8, K9, rfl, rfl, az, aL⟩
 have m := C8 m
 refine qr (lv (r_t rfl) (nq (i9 ?_)))
 cases oi m
 exact ey results57 ⟨K9, rfl, az⟩

theorem a3B {q0 : k6} {q1 : k6} {r : Bool} (hS : SH w K [] w K []) (f : q0.length ≤ maxLen) (i : q1.length ≤ maxLen) (hm : O7 F q0 q1 = some r) :
  Calls prog 160 #[sv q0, sv q1] w (R_b w K r) := by
 rw [O7] at hm
 refine ci func160 rfl ntmps160 (sr (lv (M7 rfl) (nr (mv rfl (lv (F1 underlying9 rfl) (mv rfl (lv (F1 underlying9 rfl) (lv (a2F rfl rfl) (mv rfl ?_)))))))))
 refine bt hm (fun a b => ?_) (fun a b => ?_)
 ·refine lg a (d6 rfl) (lg a (d6 rfl) (lg a (F1 underlying9 rfl) (lg a (d6 rfl) (lg a (F1 underlying9 rfl) (lg a (F2 rfl rfl) ?_)))))
  obtain ⟨k, c, d⟩ := ob b
  refine lg a (T5 underlying9 rfl rfl c) (lg a (d6 rfl) (lg a (H0 rfl rfl) (lv (j3 rfl a rfl) (av rfl (nq (i9 ?_))))))
  cases oi d
  exact ey results160 ⟨K, rfl, hS⟩
 iterate 9 refine lu a ?_
 refine lv (F7 rfl a rfl) (av rfl (nq (i9 ?_)))
 cases oi b
 exact ey results160 ⟨K, rfl, hS⟩

theorem a4Y {q0 : k6} {q1 : k6} {r : Bool} (hS : SH w K [] w K []) (a : q0.length ≤ maxLen) (b : q1.length ≤ maxLen) (hm : P7 F q0 q1 = some r) :
  Calls prog 107 #[sv q0, sv q1] w (R_b w K r) := by
 rw [P7] at hm
 refine ci func107 rfl ntmps107 (sr (lv (M7 rfl) (nr (mv rfl (mv rfl ?_)))))
 obtain ⟨l, c, d⟩ := ob hm
 refine lk b83 (a3B F hS.enter0 a b c) ?_
 rintro m o ⟨f, rfl, i⟩
 have k := (hS.c0 i).t0
 refine av rfl (nq (i9 ?_))
 cases oi d
 exact ey results107 ⟨f, rfl, k⟩

theorem a1U {q0 : k6} {r : k6} (hS : SH w K [] w K []) (D : q0.length ≤ maxLen) (hm : Q6 F q0 = some r) :
  Calls prog 60 #[sv q0] w fun e w' => ∃ K', e = .returned (sv r) ∧ SH w K [] w' K' [] ∧ r.length ≤ maxLen := by
 rw [Q6] at hm
 refine ci func60 rfl ntmps60 (sr (lv (r_s rfl) (P6 (mv rfl ?_))))
 obtain ⟨r2, ab, h4⟩ := ob hm
 refine lk a6d (E9 F hS.enter0 D ab) ?_
 rintro e8 w6 ⟨i, rfl, ad⟩
 have G := (hS.c0 ad).t0
 refine lv (y4 rfl) (nq (B5 h4 rfl (fun ae l => ?_) (fun ae l => ?_)))
 ·refine sr (lv (r_s rfl) (nq (rr ?_)))
  cases oi l
  exact ey results60 ⟨i, rfl, G, (by decide : ([] : k6).length ≤ maxLen)⟩
 refine i6 (qs (sr (lv (r_t rfl) (nq ?_))))
 obtain ⟨H, af, ag⟩ := ob l
 refine j4 (IW w K [] i [(0, sv H)] [] (H.length ≤ maxLen)) ?_ ?_
 ·refine i5 ?_
  obtain ⟨aZ, ah, ai⟩ := ob af
  refine qw (fun (k : k6 × Bool) => IW w K [] i [(0, sv k.1), (3, .bool k.2)] [] (k.1.length ≤ maxLen)) ah ⟨i, rfl, G, kr, D⟩ ?_
  rintro k _ ba bb aj ak ⟨al, rfl, I, J, O⟩
  refine k8 (sr (mv rfl (nq (B5 aj rfl (fun am m => ?_) (fun am m => ?_)))))
  ·refine i6 (j6 (i5 (sr (lv (M7 rfl) (nr (bw [[105, 110, 103], [101, 100], [101, 115], [108, 121], [115]] underlying23 D9 I fun R bc o an q ao => (lv (k9 underlying23 rfl q) (lv (r_m rfl) (nq ?_)))))))))
   obtain ⟨s, ap, aq⟩ := ob m
   refine j4 (IW w K [] o [(0, sv s.1), (3, .bool s.2)] [] (s.1.length ≤ maxLen)) ?_ ?_
   ·refine i5 ?_
    obtain ⟨bd, ar, S⟩ := ob ap
    have au := ao.sb (sd sz)
    refine qf (fun (x : Nat) (b : k6 × Bool) => IW w K [] o [(0, sv b.1), (3, .bool b.2), (10, V3 R 5 5), (11, V6 (([([105, 110, 103] : k6), ([101, 100] : k6), ([101, 115] : k6), ([108, 121] : k6), ([115] : k6)] : List k6).length : Int)), (12, V6 ((x : Nat) : Int))] [] (b.1.length ≤ maxLen)) ar ⟨o, rfl, au, kr, O⟩ ?_ ?_
    ·rintro x b _ aw be hi60 ax ay ⟨y, rfl, c, d, f⟩
     refine sr (lv (n8 rfl rfl) (ns (A3 rfl (c7 (by omega)) (i6 (j6 (k8 (i5 (sr ?_))))))))
     obtain ⟨T, az, aA⟩ := ob ax
     refine li underlying23 D9 (q.mono d) az fun aB aC bf aD aE => ?_
     obtain ⟨rfl, aF⟩ := aD
     have aG : D0 _ aB aC [sv T] := aE
     refine lv (u0 D9 rfl c (aG 0 _ rfl)) (av rfl (ns ?_))
     obtain ⟨aH, aI, aJ⟩ := ob aA
     refine j4 (IV w K [] y [(0, sv b.1), (3, .bool b.2), (5, sv T), (10, V3 R 5 5), (11, V6 (([([105, 110, 103] : k6), ([101, 100] : k6), ([101, 115] : k6), ([108, 121] : k6), ([115] : k6)] : List k6).length : Int)), (12, V6 ((x : Nat) : Int)), (26, .bool aH)] []) ?_ ?_
     ·refine i7 (mv rfl (mv rfl ?_))
      obtain ⟨bg, aK, aL⟩ := ob aI
      refine lk b8E (a4Y F c.enter0 f aF aK) ?_
      rintro bh bi ⟨U, rfl, A⟩
      have V := (c.c0 A).t0
      refine mv rfl (bt aL (fun a B => ?_) (fun a B => ?_))
      ·refine lg a (d6 rfl) (lg a (F1 underlying9 rfl) (lg a (d6 rfl) (lg a (F1 underlying9 rfl) (lg a (F2 rfl rfl) (lg a (a2F rfl rfl) (lv (j3 rfl a rfl) (d7 ?_)))))))
       cases oi B
       exact qd ⟨U, rfl, V, A.le⟩
      iterate 6 refine lu a ?_
      refine lv (F7 rfl a rfl) (d7 ?_)
      cases oi B
      exact qd ⟨U, rfl, V, A.le⟩
     rintro _ bj ⟨W, rfl, X, Y⟩
     refine j6 (B5 aJ rfl (fun aM C => ?_) (fun aM C => ?_))
     ·refine sr (mv rfl (mv rfl (lv (F1 underlying9 rfl) (mv rfl (lv (F1 underlying9 rfl) (lv (F2 rfl rfl) ?_))))))
      obtain ⟨bk, aa, aN⟩ := ob C
      refine lv (b19 underlying9 rfl rfl aa) (av rfl (nr (lv (r_t rfl) (nq (q7 (b11 rfl (d4 (d4 ?_))))))))
      cases oi aN
      cases ay _ rfl
      refine j5 ?_
      cases oi S
      exact qd ⟨W, rfl, X, (d.trans Y), (Y0 f aa)⟩
     refine i6 (o0 (qg (lv (y3 rfl rfl (A0 hi60 (b7.max q))) (mv rfl (d7 ?_)))))
     cases oi C
     exact qd ⟨_, rfl, W, rfl, X, (d.trans Y), f⟩
    rintro b _ aw aO ⟨y, rfl, c, d, f⟩
    subst aO
    refine sr (lv (n8 rfl rfl) (ns (A2 rfl (c6 (by omega)) (q7 (d4 (d4 (j5 ?_)))))))
    cases oi S
    exact qd ⟨y, rfl, c, d, f⟩
   rintro _ bl ⟨aP, rfl, aQ, aR, aS⟩
   refine o0 ?_
   cases oi aq
   exact qd ⟨_, rfl, aP, rfl, aQ, ((J.trans an).trans aR), aS⟩
  refine q7 (d4 (d4 ?_))
  cases oi m
  cases ak _ rfl
  refine j5 ?_
  cases oi ai
  exact qd ⟨al, rfl, I, J, O⟩
 rintro _ bm ⟨aT, rfl, aU, bn, aV⟩
 refine qr (mv rfl (av rfl (nq (i9 ?_))))
 cases oi ag
 exact ey results60 ⟨aT, rfl, aU, aV⟩

theorem a4a {q0 : List k6} {q1 : k6} {r : Int} (hS : SH w K [] w K []) (d : b7 B8 K A a b q0) (Y : q1.length ≤ maxLen) (hm : S2 F q0 q1 = some r) :
  Calls prog 108 #[V3 A a b, sv q1] w (R_i w K r) := by
 rw [S2] at hm
 refine ci func108 rfl ntmps108 (sr (lv (L3 rfl) (P6 (mv rfl (lv (k9 underlying23 rfl d) (lv (r_m rfl) (nq ?_)))))))
 obtain ⟨s, x, f⟩ := ob hm
 refine j4 (IE s w K [] K [] []) ?_ ?_
 ·refine i5 ?_
  obtain ⟨aa, y, m⟩ := ob x
  refine qf (fun (o : Nat) (q : Unit) => IV w K [] K [(0, V3 A a b), (1, sv q1), (7, V6 (q0.length : Int)), (8, V6 ((o : Nat) : Int))] []) y ⟨K, rfl, hS, kr⟩ ?_ ?_
  ·rintro o q _ B ab hi24 C D ⟨i, rfl, c, k⟩
   refine sr (lv (n8 rfl rfl) (ns (A3 rfl (c7 (by omega)) (i6 (j6 (k8 (i5 (sr (mv rfl (av rfl (nr (mv rfl ?_))))))))))))
   refine mv rfl (mv rfl ?_)
   obtain ⟨G, H, I⟩ := ob C
   refine li underlying23 D9 (d.mono k) H fun J O ac R S => ?_
   obtain ⟨rfl, ad⟩ := R
   have T : D0 _ J O [sv G] := S
   refine lv (u0 D9 rfl c (T 0 _ rfl)) (lv (H0 rfl rfl) (nq (B5 I rfl (fun U l => ?_) (fun U l => ?_))))
   ·refine sr (mv rfl (av rfl (nq (i9 (d8 (c9 (c9 ?_)))))))
    cases oi l
    cases D _ rfl
    refine d8 (c9 ?_)
    cases oi m
    refine c9 ?_
    cases oi f
    exact ey results108 ⟨i, rfl, c, (b05 hi24 (b7.max d))⟩
   refine i6 (o0 (qg (lv (y3 rfl rfl (A0 hi24 (b7.max d))) (mv rfl (d7 ?_)))))
   cases oi l
   exact qd ⟨_, rfl, i, rfl, c, k⟩
  rintro q _ B V ⟨i, rfl, c, k⟩
  subst V
  refine sr (lv (n8 rfl rfl) (ns (A2 rfl (c6 (by omega)) (q7 (d4 (d4 (j5 ?_)))))))
  cases oi m
  exact H9 ⟨_, i, rfl, rfl, c, k⟩ trivial
 rintro _ ae ⟨s9, W, rfl, rfl, X, ag⟩
 have f := C8 f
 refine qr (lv (r9 (v := V6 (-1)) rfl) (nq (i9 ?_)))
 cases oi f
 exact ey results108 ⟨W, rfl, X, (by decide : d9 (-1))⟩

theorem S6 {q0 : List k6} {q1 : k6} {r : Bool} (hS : SH w K [] w K []) (c : b7 B8 K A a b q0) (d : q1.length ≤ maxLen) (hm : F4 F q0 q1 = some r) :
  Calls prog 61 #[V3 A a b, sv q1] w (R_b w K r) := by
 rw [F4] at hm
 refine ci func61 rfl ntmps61 (sr (lv (M7 rfl) (nr (mv rfl (mv rfl ?_)))))
 obtain ⟨o, f, i⟩ := ob hm
 refine lk b8F (a4a F hS.enter0 c d f) ?_
 rintro q s ⟨k, rfl, l, x⟩
 have m := (hS.c0 l).t0
 refine lv (a2F rfl rfl) (av rfl (nq (i9 ?_)))
 cases oi i
 exact ey results61 ⟨k, rfl, m⟩

theorem a26 {q0 : q9} {r : Bool} (hS : SH w K [] w K []) (ae : b7 B8 K A a b q0.Stops) (U : b7 I4 K B c d q0.Syns) (hm : T6 F q0 = some r) :
  Calls prog 19 #[.agg #[V3 A a b, V3 B c d]] w (R_b w K r) := by
 rw [T6] at hm
 refine ci func19 rfl ntmps19 (sr (bx rfl hS fun f cu aO => ?_))
 have x : SH _ _ _ _ _ [q8 f [V3 A a b, V3 B c d] 26] := aO
 refine lv (M7 rfl) (ns (k8 ?_))
 obtain ⟨aP, aQ, aR⟩ := ob hm
 refine j4 (IV w K [] K [(1, pt f), (22, .bool aP)] [q8 f [V3 A a b, V3 B c d] 26]) ?_ ?_
 ·refine i7 (fl a1w rfl O5 m0 x rfl (lv (k9 underlying23 rfl ae) (lv (E5 rfl rfl) (mv rfl (bt aQ (fun i af => ?_) (fun i af => ?_))))))
  ·refine lu i (lu i (lu i (lu i (lv (K5 rfl i rfl) (mv rfl (lu rfl (lu rfl (lu rfl (lu rfl ?_)))))))))
   refine lv (K5 rfl rfl rfl) (d7 ?_)
   cases oi af
   exact qd ⟨K, rfl, x, kr⟩
  refine lg i (b8 a1w rfl) (lg i (l8 O5 rfl m0 x rfl) ?_)
  obtain ⟨cv, aS, aT⟩ := ob af
  refine x9 (wg rfl rfl i) rfl (x8 (vs := [V3 A a b]) b91 rfl) (a5t F x.enter0 ae aS) ?_
  rintro cw cx ⟨aE, rfl, V⟩
  refine ⟨_, rfl, ?_⟩
  have ag := (x.c0 V).t1
  refine lg i (y4 rfl) (lv (j9 rfl i rfl) (mv rfl (bt aT (fun k ah => ?_) (fun k ah => ?_))))
  ·refine lu k (lu k (lu k (lu k (lv (K5 rfl k rfl) (d7 ?_)))))
   cases oi ah
   exact qd ⟨aE, rfl, ag, V.le⟩
  refine lg k (b8 a1x rfl) (lg k (l8 a5V rfl m0 ag rfl) (lg k (k9 underlying24 rfl (U.mono V.le)) (lg k (E5 rfl rfl) (lv (j9 rfl k rfl) (d7 ?_)))))
  cases oi ah
  exact qd ⟨aE, rfl, ag, V.le⟩
 rintro _ cy ⟨W, rfl, ai, X⟩
 refine j6 (B5 aR rfl (fun aU aj => ?_) (fun aU aj => ?_))
 ·refine sr (lv (M7 rfl) (nq (rr ?_)))
  cases oi aj
  exact ey results19 ⟨W, rfl, ai.s⟩
 refine i6 (qs (sr (fl a1x rfl a5V m0 ai rfl (lv (k9 underlying24 rfl (U.mono X)) (lv (r_m rfl) (nq ?_))))))
 obtain ⟨aV, aW, y⟩ := ob aj
 refine j4 (IE aV w K [] W [] []) ?_ ?_
 ·refine i5 ?_
  obtain ⟨cz, aX, ak⟩ := ob aW
  refine qf (fun (s : Nat) (aF : Unit) => IV w K [] W [(1, pt f), (24, V3 B c d), (25, V6 (q0.Syns.length : Int)), (26, V6 ((s : Nat) : Int))] [q8 f [V3 A a b, V3 B c d] 26]) aX ⟨W, rfl, ai, kr⟩ ?_ ?_
  ·rintro s aF _ aY cA hi53 aZ aG ⟨am, rfl, Y, C⟩
   refine sr (lv (n8 rfl rfl) (ns (A3 rfl (c7 (by omega)) (i6 (j6 (k8 (i5 (sr ?_))))))))
   obtain ⟨D, ba, bb⟩ := ob aZ
   refine li underlying24 a3Z (U.mono (X.trans C)) ba fun bc bd cB be bf => ?_
   obtain ⟨G, H, I, rfl, J, an⟩ := be
   have bg : D0 _ bc bd [V3 G H I, sv D.To] := bf
   refine lv (D4 a3Z rfl Y bg rfl) (al a3Z Y fun ao cC bh => ?_)
   have bi : SH _ _ _ _ _ [q8 ao [V3 none 0 0, sv []] 96, _] := bh
   refine lw [V3 G H I, sv D.To] a3Z bi fun cD aH => (ns (k8 ?_))
   obtain ⟨bj, bk, bl⟩ := ob bb
   refine j4 (IV w K [] am [(1, pt f), (4, pt ao), (24, V3 B c d), (25, V6 (q0.Syns.length : Int)), (26, V6 ((s : Nat) : Int)), (48, .bool bj)] [q8 f [V3 A a b, V3 B c d] 26, q8 ao [V3 G H I, sv D.To] 96]) ?_ ?_
   ·refine C2 mixed (by kernel_rfl) aH (kv (b8 a0K rfl) (kh (u2 O5 rfl m0 rfl) (kv (k9 underlying23 rfl J) ?_)))
    obtain ⟨cE, bm, bn⟩ := ob bk
    refine kc a2W (fun _ _ bo cF => (A7 F) bo.enter0 J.rn (by decide : d9 1) (by decide : d9 3) bm) (kv (y4 rfl) (km rfl (bt bn (fun l ap => ?_) (fun l ap => ?_))))
    ·refine kn l (kn l (kn l (kn l (kv (K5 rfl l rfl) (km rfl ?_)))))
     iterate 6 refine qv rfl rfl rfl rfl ?_
     refine kv (K5 rfl rfl rfl) (z7 ?_)
     rintro cG ⟨bp, bq, br⟩
     cases oi ap
     exact qd ⟨bp, rfl, bq.f1, br⟩
    refine kg l (b8 a4F rfl) (kgh l (u2 D9 rfl m0 rfl) ?_)
    obtain ⟨cH, bs, bu⟩ := ob ap
    refine kcg l a6d (fun _ _ bv cI => (E9 F) bv.enter0 an bs) (kg l (y4 rfl) (kv (j9 rfl l rfl) (km rfl (bt bu (fun q aq => ?_) (fun q aq => ?_)))))
    ·iterate 6 refine kn q ?_
     refine kv (K5 rfl q rfl) (z7 ?_)
     rintro cJ ⟨bz, bA, bB⟩
     cases oi aq
     exact qd ⟨bz, rfl, bA.f1, bB⟩
    refine kg q (b8 a4F rfl) (kgh q (u2 D9 rfl m0 rfl) ?_)
    obtain ⟨cK, aI, bC⟩ := ob aq
    refine kdg q b7V (fun _ _ bD cL => (a1U F) bD.enter0 an aI) ?_
    obtain ⟨_, _, _, ⟨_, _, _, cM⟩, _⟩ := (a1U F) aH.enter0 an aI []
    refine kg q (b8 a4F rfl) (kgh q (u2 D9 rfl m0 rfl) (kg q (a0o rfl rfl) (kv (j9 rfl q rfl) (z7 ?_))))
    rintro cN ⟨bE, bF, bG⟩
    cases oi bC
    exact qd ⟨bE, rfl, bF.f1, bG⟩
   rintro _ cO ⟨aa, rfl, ar, O⟩
   refine j6 (B5 bl rfl (fun bH au => ?_) (fun bH au => ?_))
   ·refine sr (lv (M7 rfl) (nq (rr (d8 (c9 (c9 ?_))))))
    cases oi au
    cases aG _ rfl
    refine d8 (c9 ?_)
    cases oi ak
    refine c9 ?_
    cases oi y
    exact ey results19 ⟨aa, rfl, ar.s⟩
   refine i6 (qr (fl a0K rfl O5 m1 ar rfl (lv (k9 underlying23 rfl (J.mono O)) (lv (r_m rfl) (nq ?_)))))
   obtain ⟨bI, bJ, ab⟩ := ob au
   refine j4 (IE bI w K [] aa [(1, pt f), (24, V3 B c d), (25, V6 (q0.Syns.length : Int)), (26, V6 ((s : Nat) : Int))] [q8 f [V3 A a b, V3 B c d] 26]) ?_ ?_
   ·refine i5 ?_
    obtain ⟨cP, bK, aJ⟩ := ob bJ
    have bL := ar.sb (sk (sd sz))
    refine qf (fun (aw : Nat) (aK : Unit) => IV w K [] aa [(1, pt f), (24, V3 B c d), (25, V6 (q0.Syns.length : Int)), (26, V6 ((s : Nat) : Int)), (50, V3 G H I), (51, V6 (D.From.length : Int)), (52, V6 ((aw : Nat) : Int))] [q8 f [V3 A a b, V3 B c d] 26]) bK ⟨aa, rfl, bL, kr⟩ ?_ ?_
    ·rintro aw aK _ bM cQ hi147 bN bO ⟨ax, rfl, R, S⟩
     refine sr (lv (n8 rfl rfl) (ns (A3 rfl (c7 (by omega)) (i6 (j6 (k8 (i5 (sr ?_))))))))
     obtain ⟨ay, bP, bQ⟩ := ob bN
     refine li underlying23 D9 (J.mono (O.trans S)) bP fun bR bS cR bT bU => ?_
     obtain ⟨rfl, az⟩ := bT
     have bV : D0 _ bR bS [sv ay] := bU
     refine lv (u0 D9 rfl R (bV 0 _ rfl)) (av rfl (ns ?_))
     obtain ⟨bW, bX, bY⟩ := ob bQ
     refine j4 (IV w K [] ax [(1, pt f), (24, V3 B c d), (25, V6 (q0.Syns.length : Int)), (26, V6 ((s : Nat) : Int)), (50, V3 G H I), (51, V6 (D.From.length : Int)), (52, V6 ((aw : Nat) : Int)), (70, .bool bW)] [q8 f [V3 A a b, V3 B c d] 26]) ?_ ?_
     ·refine i7 (mv rfl ?_)
      obtain ⟨cS, bZ, ca⟩ := ob bX
      refine lk a6d (E9 F R.enter0 az bZ) ?_
      rintro cT cU ⟨cb, rfl, T⟩
      have aA := (R.c0 T).t1
      refine lv (y4 rfl) (mv rfl (bt ca (fun m aB => ?_) (fun m aB => ?_)))
      ·refine lu m (lu m (lu m (lu m (lv (K5 rfl m rfl) (mv rfl (lu rfl (lu rfl (lu rfl (lu rfl ?_)))))))))
       refine lv (K5 rfl rfl rfl) (d7 ?_)
       cases oi aB
       exact qd ⟨cb, rfl, aA, T.le⟩
      refine lg m (d6 rfl) ?_
      obtain ⟨cV, cc, cd⟩ := ob aB
      refine x9 (wg rfl rfl m) rfl (x8 (vs := [sv ay]) b7V rfl) (a1U F aA.enter0 az cc) ?_
      rintro cW cX ⟨ce, rfl, ac, cY⟩
      refine ⟨_, rfl, ?_⟩
      have ad := (aA.c0 ac).t1
      refine lg m (d6 rfl) (lg m (a0o rfl rfl) (lv (j9 rfl m rfl) (mv rfl (bt cd (fun o aC => ?_) (fun o aC => ?_)))))
      ·refine lu o (lu o (lu o (lu o (lv (K5 rfl o rfl) (d7 ?_)))))
       cases oi aC
       exact qd ⟨ce, rfl, ad, (T.le.trans ac.le)⟩
      refine lg o (b8 a1w rfl) (lg o (l8 O5 rfl m0 ad rfl) (lg o (d6 rfl) ?_))
      obtain ⟨cZ, cf, cg⟩ := ob aC
      refine x9 (wg rfl rfl o) rfl (x8 (vs := [V3 A a b, sv ay]) b7W rfl) (S6 F ad.enter0 (b7.mono (((((X.trans C).trans O).trans S).trans T.le).trans ac.le) ae) az cf) ?_
      rintro da db ⟨ch, rfl, aL⟩
      refine ⟨_, rfl, ?_⟩
      have cj := (ad.c0 aL).t1
      refine lv (j9 rfl o rfl) (d7 ?_)
      cases oi cg
      exact qd ⟨ch, rfl, cj, ((T.le.trans ac.le).trans aL.le)⟩
     rintro _ dc ⟨aM, rfl, aN, ck⟩
     refine j6 (B5 bY rfl (fun cl aD => ?_) (fun cl aD => ?_))
     ·refine sr (lv (M7 rfl) (nq (i9 (d8 (c9 (c9 ?_))))))
      cases oi aD
      cases bO _ rfl
      refine d8 (c9 ?_)
      cases oi aJ
      refine d8 (c9 (c9 ?_))
      cases oi ab
      cases aG _ rfl
      refine d8 (c9 ?_)
      cases oi ak
      refine c9 ?_
      cases oi y
      exact ey results19 ⟨aM, rfl, aN.s⟩
     refine i6 (o0 (qg (lv (y3 rfl rfl (A0 hi147 (b7.max (J.mono O)))) (mv rfl (d7 ?_)))))
     cases oi aD
     exact qd ⟨_, rfl, aM, rfl, aN, (S.trans ck)⟩
    rintro aK _ bM cm ⟨ax, rfl, R, S⟩
    subst cm
    refine sr (lv (n8 rfl rfl) (ns (A2 rfl (c6 (by omega)) (q7 (d4 (d4 (j5 ?_)))))))
    cases oi aJ
    exact qd ⟨_, ax, rfl, rfl, R, S⟩
   rintro _ dd ⟨de, cn, rfl, rfl, cp, cq⟩
   have ab := C8 ab
   refine o0 (qg (lv (y3 rfl rfl (A0 hi53 (b7.max (U.mono X)))) (mv rfl (d7 ?_))))
   cases oi ab
   exact qd ⟨_, rfl, cn, rfl, cp, ((C.trans O).trans cq)⟩
  rintro aF _ aY cr ⟨am, rfl, Y, C⟩
  subst cr
  refine sr (lv (n8 rfl rfl) (ns (A2 rfl (c6 (by omega)) (q7 (d4 (d4 (j5 ?_)))))))
  cases oi ak
  exact H9 ⟨_, am, rfl, rfl, Y.s, C⟩ trivial
 rintro _ df ⟨dg, cs, rfl, rfl, ct, dh⟩
 have y := C8 y
 refine qr (lv (r_t rfl) (nq (i9 ?_)))
 cases oi y
 exact ey results19 ⟨cs, rfl, ct⟩

theorem a27 {q0 : k6} {r : Bool} (hS : SH w K [] w K []) (y : q0.length ≤ maxLen) (hm : T7 F q0 = some r) :
  Calls prog 124 #[sv q0] w (R_b w K r) := by
 rw [T7] at hm
 refine ci func124 rfl ntmps124 (sr (lv (M7 rfl) (P6 (mv rfl (lv (F1 underlying9 rfl) (lv (r_m rfl) (nq ?_)))))))
 obtain ⟨A, B, d⟩ := ob hm
 refine j4 (IE A w K [] K [(0, sv q0)] []) ?_ ?_
 ·refine i5 ?_
  obtain ⟨ab, C, o⟩ := ob B
  refine qf (fun (i : Nat) (q : Unit) => IV w K [] K [(0, sv q0), (5, V6 (q0.length : Int)), (6, V6 ((i : Nat) : Int))] []) C ⟨K, rfl, hS, kr⟩ ?_ ?_
  ·rintro i q _ D ac hi20 G H ⟨c, rfl, f, k⟩
   refine sr (lv (n8 rfl rfl) (ns (A3 rfl (c7 (by omega)) (i6 (j6 (k8 (i5 (sr (mv rfl (av rfl (ns ?_)))))))))))
   obtain ⟨I, J, O⟩ := ob G
   refine j4 (IV w K [] c [(0, sv q0), (5, V6 (q0.length : Int)), (6, V6 ((i : Nat) : Int)), (18, .bool I)] []) ?_ ?_
   ·refine i7 (mv rfl (mv rfl ?_))
    obtain ⟨ad, R, S⟩ := ob J
    refine lv (G8 underlying9 rfl rfl R) (lv (b7I (b := (32 : UInt8)) rfl rfl) (mv rfl (bt S (fun a l => ?_) (fun a l => ?_))))
    ·refine lu a (lu a (lu a (lu a (lv (K5 rfl a rfl) (d7 ?_)))))
     cases oi l
     exact qd ⟨c, rfl, f, kr⟩
    refine lg a (d6 rfl) (lg a (d6 rfl) ?_)
    obtain ⟨ae, T, U⟩ := ob l
    refine lg a (G8 underlying9 rfl rfl T) (lg a (b7H (b := (126 : UInt8)) rfl rfl) (lv (j9 rfl a rfl) (d7 ?_)))
    cases oi U
    exact qd ⟨c, rfl, f, kr⟩
   rintro _ af ⟨s, rfl, x, V⟩
   refine j6 (B5 O rfl (fun W m => ?_) (fun W m => ?_))
   ·refine sr (lv (M7 rfl) (nq (i9 (d8 (c9 (c9 ?_))))))
    cases oi m
    cases H _ rfl
    refine d8 (c9 ?_)
    cases oi o
    refine c9 ?_
    cases oi d
    exact ey results124 ⟨s, rfl, x⟩
   refine i6 (o0 (qg (lv (y3 rfl rfl (A0 hi20 y)) (mv rfl (d7 ?_)))))
   cases oi m
   exact qd ⟨_, rfl, s, rfl, x, (k.trans V)⟩
  rintro q _ D X ⟨c, rfl, f, k⟩
  subst X
  refine sr (lv (n8 rfl rfl) (ns (A2 rfl (c6 (by omega)) (q7 (d4 (d4 (j5 ?_)))))))
  cases oi o
  exact qd ⟨_, c, rfl, rfl, f, k⟩
 rintro _ w8 ⟨s5, Y, rfl, rfl, aa, ai⟩
 have d := C8 d
 refine qr (mv rfl (lv (F1 underlying9 rfl) (lv (R9 rfl rfl) (av rfl (nq (i9 ?_))))))
 cases oi d
 exact ey results124 ⟨Y, rfl, aa⟩

theorem a3x {q0 : s7} {r : Bool} (hS : SH w K [] w K []) (aH : d9 q0.Id) (D : b7 F3 K A a b q0.Fields) (G : b7 G5 K B c d q0.Nums) (hm : X1 F q0 = some r) :
  Calls prog 111 #[.agg #[V6 q0.Id, V3 A a b, V3 B c d]] w (R_b w K r) := by
 rw [X1] at hm
 refine ci func111 rfl ntmps111 (sr (bx rfl hS fun k cT aI => ?_))
 have Y : SH _ _ _ _ _ [q8 k [V6 q0.Id, V3 A a b, V3 B c d] 54] := aI
 refine lv (M7 rfl) (ns (k8 ?_))
 obtain ⟨aJ, aK, aL⟩ := ob hm
 refine j4 (IV w K [] K [(1, pt k), (22, .bool aJ)] [q8 k [V6 q0.Id, V3 A a b, V3 B c d] 54]) ?_ ?_
 ·refine i7 (fl X7 rfl D8 m0 Y rfl ?_)
  obtain ⟨cU, aM, aN⟩ := ob aK
  refine lk a2W (A7 F Y.enter0 aH (by decide : d9 1) (by decide : d9 9999) aM) ?_
  rintro cV cW ⟨aa, rfl, C⟩
  have H := (Y.c0 C).t1
  refine lv (y4 rfl) (mv rfl (bt aN (fun o ab => ?_) (fun o ab => ?_)))
  ·refine lu o (lu o (lu o (lu o (lv (K5 rfl o rfl) (mv rfl (lu rfl (lu rfl (lu rfl (lu rfl ?_)))))))))
   refine lv (K5 rfl rfl rfl) (d7 ?_)
   cases oi ab
   exact qd ⟨aa, rfl, H, C.le⟩
  refine lg o (b8 W0 rfl) (lg o (l8 a3Y rfl m0 H rfl) (lg o (k9 underlying51 rfl (D.mono C.le)) (lg o (E5 rfl rfl) (lv (j9 rfl o rfl) (mv rfl (bt ab (fun q ac => ?_) (fun q ac => ?_)))))))
  ·refine lu q (lu q (lu q (lu q (lv (K5 rfl q rfl) (d7 ?_)))))
   cases oi ac
   exact qd ⟨aa, rfl, H, C.le⟩
  refine lg q (b8 X8 rfl) (lg q (l8 a4e rfl m0 H rfl) (lg q (k9 underlying52 rfl (G.mono C.le)) (lg q (E5 rfl rfl) (lv (j9 rfl q rfl) (d7 ?_)))))
  cases oi ac
  exact qd ⟨aa, rfl, H, C.le⟩
 rintro _ cX ⟨O, rfl, ad, y⟩
 refine j6 (B5 aL rfl (fun aO ae => ?_) (fun aO ae => ?_))
 ·refine sr (lv (M7 rfl) (nq (rr ?_)))
  cases oi ae
  exact ey results111 ⟨O, rfl, ad.s⟩
 refine i6 (qs (sr (fl W0 rfl a3Y m0 ad rfl (lv (k9 underlying51 rfl (D.mono y)) (lv (r_m rfl) (nq ?_))))))
 obtain ⟨aP, aQ, R⟩ := ob ae
 refine j4 (IE aP w K [] O [(1, pt k)] [q8 k [V6 q0.Id, V3 A a b, V3 B c d] 54]) ?_ ?_
 ·refine i5 ?_
  obtain ⟨cY, aR, aw⟩ := ob aQ
  refine qf (fun (af : Nat) (ax : Unit) => IV w K [] O [(1, pt k), (24, V3 A a b), (25, V6 (q0.Fields.length : Int)), (26, V6 ((af : Nat) : Int))] [q8 k [V6 q0.Id, V3 A a b, V3 B c d] 54]) aR ⟨O, rfl, ad, kr⟩ ?_ ?_
  ·rintro af ax _ aS cZ hi54 aT aU ⟨ag, rfl, S, I⟩
   refine sr (lv (n8 rfl rfl) (ns (A3 rfl (c7 (by omega)) (i6 (j6 (k8 (i5 (sr (mv rfl ?_)))))))))
   obtain ⟨T, aV, aW⟩ := ob aT
   refine li underlying51 M9 (D.mono (y.trans I)) aV fun aX aY da aZ ba => ?_
   obtain ⟨rfl, bb, bc⟩ := aZ
   have bd : D0 _ aX aY [sv T.Name, sv T.Text] := ba
   refine lv (D4 M9 rfl S bd rfl) (al M9 S fun be db bf => ?_)
   have bg : SH _ _ _ _ _ [q8 be [sv [], sv []] 158, _] := bf
   refine av rfl (lw [sv T.Name, sv T.Text] M9 bg fun dc bh => (ns ?_))
   obtain ⟨bi, bj, bk⟩ := ob aW
   refine j4 (IV w K [] ag [(1, pt k), (24, V3 A a b), (25, V6 (q0.Fields.length : Int)), (26, V6 ((af : Nat) : Int)), (56, .bool bi)] [q8 k [V6 q0.Id, V3 A a b, V3 B c d] 54]) ?_ ?_
   ·refine C2 mixed (by kernel_rfl) bh (kv (b8 a2l rfl) (kh (u2 D9 rfl m0 rfl) ?_))
    obtain ⟨dd, bl, bm⟩ := ob bj
    refine kc a6d (fun _ _ bn de => (E9 F) bn.enter0 bb bl) (kv (y4 rfl) (km rfl (bt bm (fun s ah => ?_) (fun s ah => ?_))))
    ·refine kn s (kn s (kn s (kn s (kv (K5 rfl s rfl) (km rfl (qv rfl rfl rfl rfl (qv rfl rfl rfl rfl (qv rfl rfl rfl rfl ?_))))))))
     iterate 10 refine ku ?_
     refine qv rfl rfl rfl rfl (kv (K5 rfl rfl rfl) (z7 ?_))
     rintro df ⟨bo, bp, bq⟩
     cases oi ah
     exact qd ⟨bo, rfl, bp.s, bq⟩
    refine kg s (b8 a6f rfl) (kgh s (u2 D9 rfl m0 rfl) ?_)
    obtain ⟨dg, br, bs⟩ := ob ah
    refine kcg s b5m (fun _ _ bu dh => (a27 F) bu.enter0 bc br) (kg s (y4 rfl) (kv (j9 rfl s rfl) (km rfl (bt bs (fun l ai => ?_) (fun l ai => ?_)))))
    ·refine kn l (kn l (kn l ?_))
     iterate 10 refine ku ?_
     refine kn l (kv (K5 rfl l rfl) (z7 ?_))
     rintro di ⟨bv, bz, bA⟩
     cases oi ai
     exact qd ⟨bv, rfl, bz.s, bA⟩
    refine kg l (d6 rfl) (kg l (E5 rfl rfl) (kg l (d6 rfl) (bt ai (fun f aj => ?_) (fun f aj => ?_))))
    ·refine kg f (b8 W0 rfl) (kgh f (u2 a3Y rfl m1 rfl) (kg f (d6 rfl) (kg f (F2 rfl rfl) ?_)))
     obtain ⟨ay, bB, bC⟩ := ob aj
     refine B4 (t := F3) (wg rfl rfl f) rfl underlying51 M9 rfl rfl (D.mono (y.trans I)) bB fun bD bE dj bF bG => ?_
     obtain ⟨rfl, dk, dl⟩ := bF
     have bH : D0 _ bD bE [sv ay.Name, sv ay.Text] := bG
     refine kg f (b8 a2l rfl) (kgh f (z8 D9 rfl (bH 0 _ rfl)) (kg f (b8 a2l rfl) (kgh f (u2 D9 rfl m0 rfl) (kg f (b07 rfl rfl) (kg l (j3 rfl f rfl) (kv (j9 rfl l rfl) (z7 ?_)))))))
     rintro dm ⟨bI, bJ, bK⟩
     cases oi bC
     exact qd ⟨bI, rfl, bJ.s, bK⟩
    iterate 10 refine kn f ?_
    refine kg l (F7 rfl f rfl) (kv (j9 rfl l rfl) (z7 ?_))
    rintro dn ⟨bL, bM, bN⟩
    cases oi aj
    exact qd ⟨bL, rfl, bM.s, bN⟩
   rintro _ dp ⟨az, rfl, aA, bO⟩
   refine j6 (B5 bk rfl (fun bP ak => ?_) (fun bP ak => ?_))
   ·refine sr (lv (M7 rfl) (nq (i9 (d8 (c9 (c9 ?_))))))
    cases oi ak
    cases aU _ rfl
    refine d8 (c9 ?_)
    cases oi aw
    refine c9 ?_
    cases oi R
    exact ey results111 ⟨az, rfl, aA.s⟩
   refine i6 (o0 (qg (lv (y3 rfl rfl (A0 hi54 (b7.max (D.mono y)))) (mv rfl (d7 ?_)))))
   cases oi ak
   exact qd ⟨_, rfl, az, rfl, aA, (I.trans bO)⟩
  rintro ax _ aS bQ ⟨ag, rfl, S, I⟩
  subst bQ
  refine sr (lv (n8 rfl rfl) (ns (A2 rfl (c6 (by omega)) (q7 (d4 (d4 (j5 ?_)))))))
  cases oi aw
  exact qd ⟨_, ag, rfl, rfl, S, I⟩
 rintro _ dq ⟨dr, am, rfl, rfl, aB, U⟩
 have R := C8 R
 refine qs (sr (fl X8 rfl a4e m0 aB rfl (lv (k9 underlying52 rfl (G.mono (y.trans U))) (lv (r_m rfl) (nq ?_)))))
 obtain ⟨bR, bS, V⟩ := ob R
 refine j4 (IE bR w K [] am [] []) ?_ ?_
 ·refine i5 ?_
  obtain ⟨ds, bT, aC⟩ := ob bS
  refine qf (fun (an : Nat) (aD : Unit) => IV w K [] am [(1, pt k), (59, V3 B c d), (60, V6 (q0.Nums.length : Int)), (61, V6 ((an : Nat) : Int))] [q8 k [V6 q0.Id, V3 A a b, V3 B c d] 54]) bT ⟨am, rfl, aB, kr⟩ ?_ ?_
  ·rintro an aD _ bU dt hi156 bV bW ⟨ao, rfl, W, J⟩
   refine sr (lv (n8 rfl rfl) (ns (A3 rfl (c7 (by omega)) (i6 (j6 (k8 (i5 (sr (mv rfl ?_)))))))))
   obtain ⟨X, bX, bY⟩ := ob bV
   refine li underlying52 P9 (G.mono ((y.trans U).trans J)) bX fun bZ ca du cb cc => ?_
   obtain ⟨rfl, cd, ce⟩ := cb
   have cf : D0 _ bZ ca [sv X.Name, V6 X.Num] := cc
   refine lv (D4 P9 rfl W cf rfl) (al P9 W fun cg dv ch => ?_)
   have cj : SH _ _ _ _ _ [q8 cg [sv [], V6 0] 197, _] := ch
   refine av rfl (lw [sv X.Name, V6 X.Num] P9 cj fun dw ck => (ns ?_))
   obtain ⟨cl, cm, cn⟩ := ob bY
   refine j4 (IV w K [] ao [(1, pt k), (59, V3 B c d), (60, V6 (q0.Nums.length : Int)), (61, V6 ((an : Nat) : Int)), (91, .bool cl)] [q8 k [V6 q0.Id, V3 A a b, V3 B c d] 54]) ?_ ?_
   ·refine C2 mixed (by kernel_rfl) ck (kv (b8 a3l rfl) (kh (u2 D9 rfl m0 rfl) ?_))
    obtain ⟨dx, cp, cq⟩ := ob cm
    refine kc a6d (fun _ _ cr dy => (E9 F) cr.enter0 cd cp) (kv (y4 rfl) (km rfl (bt cq (fun x ap => ?_) (fun x ap => ?_))))
    ·refine kn x (kn x (kn x (kn x (kv (K5 rfl x rfl) (km rfl (qv rfl rfl rfl rfl (qv rfl rfl rfl rfl (qv rfl rfl rfl rfl ?_))))))))
     iterate 10 refine ku ?_
     refine qv rfl rfl rfl rfl (kv (K5 rfl rfl rfl) (z7 ?_))
     rintro dz ⟨cs, ct, cu⟩
     cases oi ap
     exact qd ⟨cs, rfl, ct.s, cu⟩
    refine kg x (b8 a8y rfl) (kgh x (u2 D8 rfl m0 rfl) ?_)
    obtain ⟨dA, cv, cw⟩ := ob ap
    refine kcg x a2W (fun _ _ cx dB => (A7 F) cx.enter0 ce I0 (by decide : d9 999999999) cv) (kg x (y4 rfl) (kv (j9 rfl x rfl) (km rfl (bt cw (fun m aq => ?_) (fun m aq => ?_)))))
    ·refine kn m (kn m (kn m ?_))
     iterate 10 refine ku ?_
     refine kn m (kv (K5 rfl m rfl) (z7 ?_))
     rintro dC ⟨cy, cz, cA⟩
     cases oi aq
     exact qd ⟨cy, rfl, cz.s, cA⟩
    refine kg m (d6 rfl) (kg m (E5 rfl rfl) (kg m (d6 rfl) (bt aq (fun i ar => ?_) (fun i ar => ?_))))
    ·refine kg i (b8 X8 rfl) (kgh i (u2 a4e rfl m1 rfl) (kg i (d6 rfl) (kg i (F2 rfl rfl) ?_)))
     obtain ⟨aE, cB, cC⟩ := ob ar
     refine B4 (t := G5) (wg rfl rfl i) rfl underlying52 P9 rfl rfl (G.mono ((y.trans U).trans J)) cB fun cD cE dD cF cG => ?_
     obtain ⟨rfl, dE, dF⟩ := cF
     have cH : D0 _ cD cE [sv aE.Name, V6 aE.Num] := cG
     refine kg i (b8 a3l rfl) (kgh i (z8 D9 rfl (cH 0 _ rfl)) (kg i (b8 a3l rfl) (kgh i (u2 D9 rfl m0 rfl) (kg i (b07 rfl rfl) (kg m (j3 rfl i rfl) (kv (j9 rfl m rfl) (z7 ?_)))))))
     rintro dG ⟨cI, cJ, cK⟩
     cases oi cC
     exact qd ⟨cI, rfl, cJ.s, cK⟩
    iterate 10 refine kn i ?_
    refine kg m (F7 rfl i rfl) (kv (j9 rfl m rfl) (z7 ?_))
    rintro dH ⟨cL, cM, cN⟩
    cases oi ar
    exact qd ⟨cL, rfl, cM.s, cN⟩
   rintro _ dI ⟨aF, rfl, aG, cO⟩
   refine j6 (B5 cn rfl (fun cP au => ?_) (fun cP au => ?_))
   ·refine sr (lv (M7 rfl) (nq (i9 (d8 (c9 (c9 ?_))))))
    cases oi au
    cases bW _ rfl
    refine d8 (c9 ?_)
    cases oi aC
    refine c9 ?_
    cases oi V
    exact ey results111 ⟨aF, rfl, aG.s⟩
   refine i6 (o0 (qg (lv (y3 rfl rfl (A0 hi156 (b7.max (G.mono (y.trans U))))) (mv rfl (d7 ?_)))))
   cases oi au
   exact qd ⟨_, rfl, aF, rfl, aG, (J.trans cO)⟩
  rintro aD _ bU cQ ⟨ao, rfl, W, J⟩
  subst cQ
  refine sr (lv (n8 rfl rfl) (ns (A2 rfl (c6 (by omega)) (q7 (d4 (d4 (j5 ?_)))))))
  cases oi aC
  exact H9 ⟨_, ao, rfl, rfl, W.s, J⟩ trivial
 rintro _ dJ ⟨dK, cR, rfl, rfl, cS, dL⟩
 have V := C8 V
 refine qr (lv (r_t rfl) (nq (i9 ?_)))
 cases oi V
 exact ey results111 ⟨cR, rfl, cS⟩

theorem a4Q {q0 : List s7} {r : Bool} (hS : SH w K [] w K []) (f : b7 E1 K A a b q0) (hm : a0a F q0 = some r) :
  Calls prog 63 #[V3 A a b] w (R_b w K r) := by
 rw [a0a] at hm
 refine ci func63 rfl ntmps63 (sr (lv (M7 rfl) (P6 (mv rfl (lv (k9 underlying35 rfl f) (lv (r_m rfl) (nq ?_)))))))
 obtain ⟨U, V, k⟩ := ob hm
 refine j4 (IE U w K [] K [(0, V3 A a b)] []) ?_ ?_
 ·refine i5 ?_
  obtain ⟨bc, W, J⟩ := ob V
  refine qf (fun (m : Nat) (O : Unit) => IV w K [] K [(0, V3 A a b), (5, V3 A a b), (6, V6 (q0.length : Int)), (7, V6 ((m : Nat) : Int))] []) W ⟨K, rfl, hS, kr⟩ ?_ ?_
  ·rintro m O _ X bd hi23 Y aa ⟨o, rfl, l, i⟩
   refine sr (lv (n8 rfl rfl) (ns (A3 rfl (c7 (by omega)) (i6 (j6 (k8 (i5 (sr (mv rfl ?_)))))))))
   obtain ⟨q, ab, ac⟩ := ob Y
   refine li underlying35 C0 (f.mono i) ab fun ad ae be af ag => ?_
   obtain ⟨s, x, y, B, C, D, rfl, ah, ai, aj⟩ := af
   have ak : D0 _ ad ae [V6 q.Id, V3 s x y, V3 B C D] := ag
   refine lv (D4 C0 rfl l ak rfl) (al C0 l fun am bf an => ?_)
   have ao : SH _ _ _ _ _ [q8 am [V6 0, V3 none 0 0, V3 none 0 0] 54] := an
   refine av rfl (lw [V6 q.Id, V3 s x y, V3 B C D] C0 ao fun bg ap => (ns ?_))
   obtain ⟨aq, ar, au⟩ := ob ac
   refine j4 (IV w K [] o [(0, V3 A a b), (5, V3 A a b), (6, V6 (q0.length : Int)), (7, V6 ((m : Nat) : Int)), (29, .bool aq)] []) ?_ ?_
   ·refine C2 mixed (by kernel_rfl) ap (kh (R0 (ds := [V6 q.Id, V3 s x y, V3 B C D]) C0 rfl m0 rfl rfl) ?_)
    obtain ⟨bh, aw, ax⟩ := ob ar
    refine kc b5l (fun _ _ ay R => (a3x F) ay.enter0 ah (ai.mono R) (aj.mono R) aw) (kv (y4 rfl) (km rfl (bt ax (fun c G => ?_) (fun c G => ?_))))
    ·refine kn c (kn c (kn c ?_))
     iterate 9 refine ku ?_
     refine kn c (kv (K5 rfl c rfl) (z7 ?_))
     rintro bi ⟨az, aA, aB⟩
     cases oi G
     exact qd ⟨az, rfl, aA.s, aB⟩
    refine kg c (d6 rfl) (kg c (E5 rfl rfl) (kg c (d6 rfl) (bt G (fun d H => ?_) (fun d H => ?_))))
    ·refine kg d (d6 rfl) (kg d (d6 rfl) (kg d (F2 rfl rfl) ?_))
     obtain ⟨aC, aD, aE⟩ := ob H
     refine B4 (t := E1) (wg rfl rfl d) rfl underlying35 C0 rfl rfl (f.mono i) aD fun aF aG bj aH aI => ?_
     obtain ⟨aJ, aK, aL, aM, aN, aO, rfl, bk, bl, bm⟩ := aH
     have aP : D0 _ aF aG [V6 aC.Id, V3 aJ aK aL, V3 aM aN aO] := aI
     refine kg d (b8 X7 rfl) (kgh d (z8 D8 rfl (aP 0 _ rfl)) (kg d (b8 X7 rfl) (kgh d (u2 D8 rfl m0 rfl) (kg d (a2F rfl rfl) (kg c (j3 rfl d rfl) (kv (j9 rfl c rfl) (z7 ?_)))))))
     rintro bn ⟨aQ, aR, aS⟩
     cases oi aE
     exact qd ⟨aQ, rfl, aR.s, aS⟩
    iterate 9 refine kn d ?_
    refine kg c (F7 rfl d rfl) (kv (j9 rfl c rfl) (z7 ?_))
    rintro bo ⟨aT, aU, aV⟩
    cases oi H
    exact qd ⟨aT, rfl, aU.s, aV⟩
   rintro _ bp ⟨S, rfl, T, aW⟩
   refine j6 (B5 au rfl (fun aX I => ?_) (fun aX I => ?_))
   ·refine sr (lv (M7 rfl) (nq (i9 (d8 (c9 (c9 ?_))))))
    cases oi I
    cases aa _ rfl
    refine d8 (c9 ?_)
    cases oi J
    refine c9 ?_
    cases oi k
    exact ey results63 ⟨S, rfl, T⟩
   refine i6 (o0 (qg (lv (y3 rfl rfl (A0 hi23 (b7.max f))) (mv rfl (d7 ?_)))))
   cases oi I
   exact qd ⟨_, rfl, S, rfl, T, (i.trans aW)⟩
  rintro O _ X aY ⟨o, rfl, l, i⟩
  subst aY
  refine sr (lv (n8 rfl rfl) (ns (A2 rfl (c6 (by omega)) (q7 (d4 (d4 (j5 ?_)))))))
  cases oi J
  exact qd ⟨_, o, rfl, rfl, l, i⟩
 rintro _ bq ⟨s8, K9, rfl, rfl, ba, bb⟩
 have k := C8 k
 refine qr (mv rfl (lv (k9 underlying35 rfl (f.mono bb)) (lv (R9 rfl rfl) (av rfl (nq (i9 ?_))))))
 cases oi k
 exact ey results63 ⟨K9, rfl, ba⟩

theorem a3y {q0 : UInt8} {r : UInt8} (hS : SH w K [] w K []) (hm : X2 F q0 = some r) :
  Calls prog 171 #[iv8 q0] w fun e w' => ∃ K', e = .returned (iv8 r) ∧ SH w K [] w' K' [] := by
 rw [X2] at hm
 refine ci func171 rfl ntmps171 (sr (lv (r9 (v := iv8 0) rfl) (ns (k8 ?_))))
 obtain ⟨k, l, m⟩ := ob hm
 refine j4 (IV w K [] K [(0, iv8 q0), (8, .bool k)] []) ?_ ?_
 ·refine i7 (mv rfl (lv (a42 (b := (65 : UInt8)) rfl rfl) (mv rfl (bt l (fun a c => ?_) (fun a c => ?_)))))
  ·refine lg a (d6 rfl) (lg a (a43 (b := (90 : UInt8)) rfl rfl) (lv (j3 rfl a rfl) (d7 ?_)))
   cases oi c
   exact qd ⟨K, rfl, hS, kr⟩
  refine lu a (lu a (lv (F7 rfl a rfl) (d7 ?_)))
  cases oi c
  exact qd ⟨K, rfl, hS, kr⟩
 rintro _ q ⟨f, rfl, i, s⟩
 refine j6 (B5 m rfl (fun o d => ?_) (fun o d => ?_))
 ·refine sr (mv rfl (lv (b3P (b := (97 : UInt8)) rfl rfl) (lv (b60 (b := (65 : UInt8)) rfl rfl) (av rfl (nq (rr ?_))))))
  cases oi d
  exact ey results171 ⟨f, rfl, i⟩
 refine i6 (qr (mv rfl (av rfl (nq (i9 ?_)))))
 cases oi d
 exact ey results171 ⟨f, rfl, i⟩

theorem a79 {q0 : k6} {r : (List S4)} (hS : SH w K [] w K []) (aI : q0.length ≤ maxLen) (hm : a0t F q0 = some r) :
  Calls prog 125 #[sv q0] w fun e w' => ∃ a_1 n_2 c_3 K', e = .returned (V3 a_1 n_2 c_3) ∧ SH w K [] w' K' [tail (V3 a_1 n_2 c_3) 169 4] ∧ b7 a3E K' a_1 n_2 c_3 r := by
 rw [a0t] at hm
 refine ci func125 rfl ntmps125 (sr (lv (r_n rfl) (nr (b0 a3E underlying166 a1Z hS fun a2 w3 K4 cp an ao => (av rfl (P6 (mv rfl ?_)))))))
 obtain ⟨r8, aJ, aK⟩ := ob hm
 refine lk b5m (a27 F ao.enter0 aI aJ) ?_
 rintro cr ct ⟨J, rfl, W⟩
 have ap := (ao.c0 W).t1
 refine lv (y4 rfl) (nq (B5 aK rfl (fun aL X => ?_) (fun aL X => ?_)))
 ·refine sr (mv rfl (av rfl (nq (rr ?_))))
  cases oi X
  exact ey results125 ⟨a2, 0, 0, J, rfl, ap, (an.mono W.le)⟩
 refine i6 (qs (sr (lv (L3 rfl) (nq ?_))))
 obtain ⟨aM, aN, aO⟩ := ob X
 refine j4 (fun E' w' => ∃ A B C D, E' = [(3, V3 A B C)] ∧ SH w K [] w' D [tail (V3 A B C) 169 4] ∧ H6 J D ∧ b7 a3E D A B C aM) ?_ ?_
 ·refine i5 ?_
  obtain ⟨cu, aP, aQ⟩ := ob aN
  refine qw (fun (a : (List S4) × Int) E' w' => ∃ c d f G, E' = [(0, sv q0), (3, V3 c d f), (4, V6 a.2)] ∧ SH w K [] w' G [tail (V3 c d f) 169 4] ∧ H6 J G ∧ b7 a3E G c d f a.1 ∧ d9 a.2) aP ⟨a2, 0, 0, J, rfl, ap, kr, (an.mono W.le), I0⟩ ?_
  rintro a _ cv cw aR aS ⟨c, d, f, G, rfl, Y, aa, H, aq⟩
  refine k8 (sr (mv rfl (mv rfl (lv (F1 underlying9 rfl) (lv (n8 rfl rfl) (nq (B5 aR rfl (fun aT ab => ?_) (fun aT ab => ?_))))))))
  ·refine i6 (j6 (i5 (k8 (sr (mv rfl (mv rfl ?_))))))
   obtain ⟨cx, aU, aV⟩ := ob ab
   refine lv (G8 underlying9 rfl rfl aU) ?_
   obtain ⟨cy, aW, aX⟩ := ob aV
   refine lk b5q (a3y F Y.enter0  aW) ?_
   rintro cz cA ⟨cB, rfl, o⟩
   have ar := (Y.c0 o).t1
   obtain ⟨cC, aY, aZ⟩ := ob aX
   refine lk b3r (a0Z F ar.enter0  aY) ?_
   rintro cD cE ⟨ba, rfl, q⟩
   have au := (ar.c0 q).t1
   refine lv (y4 rfl) (nq (B5 aZ rfl (fun bb ac => ?_) (fun bb ac => ?_)))
   ·refine sr (mv rfl (lv (s6 rfl rfl) (av rfl (nq (q7 (d4 (j5 ?_)))))))
    cases oi ac
    exact qd ⟨_, rfl, c, d, f, ba, rfl, au, ((aa.trans o.le).trans q.le), (H.mono (o.le.trans q.le)), (l9 _)⟩
   refine i6 (qr (mv rfl (lv (k9 underlying166 rfl (H.mono (o.le.trans q.le))) (mv rfl (lv (A5 (cs := #[sv [], V6 (a.1.length : Int), V6 a.2, V6 0]) b7N a1Z rfl (by kernel_rfl)) (al a1Z au fun s cF bc => ?_))))))
   have bd : SH _ _ _ _ _ [q8 s [sv [], V6 0, V6 0, V6 0] 169, _] := bc
   refine ls [sv [], V6 (a.1.length : Int), V6 a.2, V6 0] (.agg #[sv [], V6 (a.1.length : Int), V6 a.2, V6 0]) a1Z bd fun cG be => (nr (b0 tU8 underlying22 tf5 be fun bf cH ad aw bg bh => (av rfl (ns ?_))))
   obtain ⟨b, bi, bj⟩ := ob ac
   refine j4 (fun E' w' => ∃ O R S T, E' = [(0, sv q0), (3, V3 c d f), (4, V6 b.1), (5, pt s), (6, V3 O R S)] ∧ SH w K [] w' T [q8 s [sv [], V6 (a.1.length : Int), V6 a.2, V6 0] 169, tail (V3 c d f) 169 4, tail (V3 O R S) 5 1] ∧ H6 ad T ∧ d9 b.1 ∧ b7 tU8 T O R S b.2) ?_ ?_
   ·refine i5 ?_
    obtain ⟨cI, bk, bl⟩ := ob bi
    refine qw (fun (I : Int × (List UInt8)) E' w' => ∃ k l m y, E' = [(0, sv q0), (3, V3 c d f), (4, V6 I.1), (5, pt s), (6, V3 k l m)] ∧ SH w K [] w' y [q8 s [sv [], V6 (a.1.length : Int), V6 a.2, V6 0] 169, tail (V3 c d f) 169 4, tail (V3 k l m) 5 1] ∧ H6 ad y ∧ d9 I.1 ∧ b7 tU8 y k l m I.2) bk ⟨bf, 0, 0, ad, rfl, bh.f2.f2, kr, aq, bg⟩ ?_
    rintro I _ cJ cK bm bn ⟨k, l, m, y, rfl, ae, af, bo, U⟩
    refine k8 (k8 ?_)
    obtain ⟨bp, bq, br⟩ := ob bm
    refine j4 (IV w K [] y [(0, sv q0), (3, V3 c d f), (4, V6 I.1), (5, pt s), (6, V3 k l m), (39, .bool bp)] [q8 s [sv [], V6 (a.1.length : Int), V6 a.2, V6 0] 169, tail (V3 c d f) 169 4, tail (V3 k l m) 5 1]) ?_ ?_
    ·refine i7 (mv rfl (mv rfl (lv (F1 underlying9 rfl) (lv (n8 rfl rfl) (mv rfl (bt bq (fun i ag => ?_) (fun i ag => ?_)))))))
     ·refine lg i (d6 rfl) (lg i (d6 rfl) ?_)
      obtain ⟨bs, bu, bv⟩ := ob ag
      refine lg i (G8 underlying9 rfl rfl bu) ?_
      obtain ⟨bx, bz, bA⟩ := ob bv
      refine x9 (wg rfl rfl i) rfl (x8 (vs := [iv8 bs]) b5q rfl) (a3y F ae.enter0  bz) ?_
      rintro cL cM ⟨cN, rfl, ax⟩
      refine ⟨_, rfl, ?_⟩
      have ay := (ae.c0 ax).t3
      obtain ⟨cO, bB, bC⟩ := ob bA
      refine x9 (wg rfl rfl i) rfl (x8 (vs := [iv8 bx]) b3r rfl) (a0Z F ay.enter0  bB) ?_
      rintro cP cQ ⟨bD, rfl, az⟩
      refine ⟨_, rfl, ?_⟩
      have bE := (ay.c0 az).t3
      refine lv (j3 rfl i rfl) (d7 ?_)
      cases oi bC
      exact qd ⟨bD, rfl, bE, (ax.le.trans az.le)⟩
     iterate 5 refine lu i ?_
     refine lv (F7 rfl i rfl) (d7 ?_)
     cases oi ag
     exact qd ⟨y, rfl, ae, kr⟩
    rintro _ cR ⟨aA, rfl, V, x⟩
    refine j6 (B5 br rfl (fun bF ah => ?_) (fun bF ah => ?_))
    ·refine i6 (j6 (i5 (k8 (sr (mv rfl (lv (k9 underlying22 rfl (U.mono x)) (lv (n8 rfl rfl) (nq (B5 ah rfl (fun bG ai => ?_) (fun bG ai => ?_))))))))))
     ·refine i7 (mv rfl (mv rfl (mv rfl ?_)))
      obtain ⟨cS, bH, bI⟩ := ob ai
      refine lv (G8 underlying9 rfl rfl bH) ?_
      obtain ⟨aj, bJ, bK⟩ := ob bI
      refine lk b5q (a3y F V.enter0  bJ) ?_
      rintro cT cU ⟨cV, rfl, ak⟩
      have bL := (V.c0 ak).t3
      refine lb tU8 (iv8 aj) [iv8 aj] aj underlying22 tf5 rfl bL fun cW cX cY aB bM bN => ?_
      obtain ⟨cZ, bO, bP⟩ := ob bK
      refine lp underlying22 tf5 (U.mono ((x.trans ak.le).trans aB)) bM bO bN.f3 fun bQ bR bS da bT bU bV bW => (av rfl (nq (i7 (mv rfl (lv (s6 rfl rfl) (av rfl (nb ?_)))))))
      cases oi bP
      exact qd ⟨_, rfl, bQ, bR, bS, bT, rfl, bW.f3.f3.s, ((((af.trans x).trans ak.le).trans aB).trans bU), (l9 _), bV⟩
     refine i6 (j6 (i7 (mv rfl (lv (s6 rfl rfl) (av rfl (nb ?_))))))
     cases oi ai
     exact qd ⟨_, rfl, k, l, m, aA, rfl, V, (af.trans x), (l9 _), (U.mono x)⟩
    refine q7 (d4 (d4 ?_))
    cases oi ah
    cases bn _ rfl
    refine j5 ?_
    cases oi bl
    exact qd ⟨k, l, m, aA, rfl, V, (af.trans x), bo, (U.mono x)⟩
   rintro _ db ⟨O, R, S, T, rfl, aC, aD, aE, aF⟩
   refine qr (mv rfl (lv (b5V underlying22 underlying5 underlying9 rfl aF aC) (mv rfl (fa a6g rfl (ls [sv b.2, V6 (a.1.length : Int), V6 a.2, V6 0] (sv b.2) D9 aC fun dc bX => (fa b6F rfl (ls [sv b.2, V6 (a.1.length : Int), V6 a.2, V6 b.1] (V6 b.1) D8 bX fun dd aG => (nq (i7 ?_)))))))))
   refine mv rfl (lv (l3 (ds := [sv b.2, V6 (a.1.length : Int), V6 a.2, V6 b.1]) a1Z rfl m0 aG rfl rfl) (lb a3E (.agg #[sv b.2, V6 (a.1.length : Int), V6 a.2, V6 b.1]) [sv b.2, V6 (a.1.length : Int), V6 a.2, V6 b.1] (S4.mk b.2 (a.1.length : Int) a.2 b.1) underlying166 a1Z ⟨rfl, (b7.max aF), (H.mono (o.le.trans q.le)).rn, aq, aE⟩ aG fun de df dg aH bY bZ => ?_))
   obtain ⟨dh, ca, cb⟩ := ob bj
   refine lp underlying166 a1Z (b7.mono ((((o.le.trans q.le).trans aw).trans aD).trans aH) H) bY ca bZ.f2 fun cc cd ce di cf cg ch cj => (av rfl (nb ?_))
   cases oi cb
   exact qd ⟨_, rfl, cc, cd, ce, cf, rfl, cj.s, ((((((aa.trans o.le).trans q.le).trans aw).trans aD).trans aH).trans cg), ch, aE⟩
  refine q7 (d4 (d4 ?_))
  cases oi ab
  cases aS _ rfl
  refine j5 ?_
  cases oi aQ
  exact qd ⟨c, d, f, G, rfl, Y, aa, H⟩
 rintro _ dj ⟨A, B, C, D, rfl, ck, dk, cl⟩
 refine qr (mv rfl (av rfl (nq (i9 ?_))))
 cases oi aO
 exact ey results125 ⟨A, B, C, D, rfl, ck, cl⟩

theorem a4R {q0 : k6} {r : Bool} (hS : SH w K [] w K []) (A : q0.length ≤ maxLen) (hm : a0b F q0 = some r) :
  Calls prog 156 #[sv q0] w (R_b w K r) := by
 rw [a0b] at hm
 refine ci func156 rfl ntmps156 (sr (lv (M7 rfl) (P6 (mv rfl (lv (F1 underlying9 rfl) (lv (r_m rfl) (nq ?_)))))))
 obtain ⟨I, J, d⟩ := ob hm
 refine j4 (IE I w K [] K [(0, sv q0)] []) ?_ ?_
 ·refine i5 ?_
  obtain ⟨ao, O, B⟩ := ob J
  refine qf (fun (k : Nat) (C : Unit) => IV w K [] K [(0, sv q0), (5, V6 (q0.length : Int)), (6, V6 ((k : Nat) : Int))] []) O ⟨K, rfl, hS, kr⟩ ?_ ?_
  ·rintro k C _ R ap hi20 S T ⟨l, rfl, f, m⟩
   refine sr (lv (n8 rfl rfl) (ns (A3 rfl (c7 (by omega)) (i6 (j6 (k8 (i5 (sr (mv rfl (av rfl (ns ?_)))))))))))
   obtain ⟨U, V, W⟩ := ob S
   refine j4 (IV w K [] l [(0, sv q0), (5, V6 (q0.length : Int)), (6, V6 ((k : Nat) : Int)), (25, .bool U)] []) ?_ ?_
   ·refine i7 (mv rfl (mv rfl ?_))
    obtain ⟨aq, X, Y⟩ := ob V
    refine lv (G8 underlying9 rfl rfl X) ?_
    obtain ⟨ar, aa, ab⟩ := ob Y
    refine lk b3r (a0Z F f.enter0  aa) ?_
    rintro au aw ⟨o, rfl, i⟩
    have q := (f.c0 i).t0
    refine lv (y4 rfl) (mv rfl (bt ab (fun a s => ?_) (fun a s => ?_)))
    ·refine lg a (d6 rfl) (lg a (d6 rfl) ?_)
     obtain ⟨ax, ac, ad⟩ := ob s
     refine lg a (G8 underlying9 rfl rfl ac) (lg a (a44 (b := (42 : UInt8)) rfl rfl) (lv (j3 rfl a rfl) (mv rfl (bt ad (fun c x => ?_) (fun c x => ?_)))))
     ·refine lg c (d6 rfl) (lg c (d6 rfl) ?_)
      obtain ⟨ay, ae, af⟩ := ob x
      refine lg c (G8 underlying9 rfl rfl ae) (lg c (a44 (b := (63 : UInt8)) rfl rfl) (lv (j3 rfl c rfl) (d7 ?_)))
      cases oi af
      exact qd ⟨o, rfl, q, i.le⟩
     refine lu c (lu c (lu c (lu c (lv (F7 rfl c rfl) (d7 ?_)))))
     cases oi x
     exact qd ⟨o, rfl, q, i.le⟩
    refine lu a (lu a (lu a (lu a (lv (F7 rfl a rfl) (mv rfl (lu rfl (lu rfl (lu rfl (lu rfl ?_)))))))))
    refine lv (F7 rfl rfl rfl) (d7 ?_)
    cases oi s
    exact qd ⟨o, rfl, q, i.le⟩
   rintro _ az ⟨D, rfl, G, ag⟩
   refine j6 (B5 W rfl (fun ah y => ?_) (fun ah y => ?_))
   ·refine sr (lv (M7 rfl) (nq (i9 (d8 (c9 (c9 ?_))))))
    cases oi y
    cases T _ rfl
    refine d8 (c9 ?_)
    cases oi B
    refine c9 ?_
    cases oi d
    exact ey results156 ⟨D, rfl, G⟩
   refine i6 (o0 (qg (lv (y3 rfl rfl (A0 hi20 A)) (mv rfl (d7 ?_)))))
   cases oi y
   exact qd ⟨_, rfl, D, rfl, G, (m.trans ag)⟩
  rintro C _ R ai ⟨l, rfl, f, m⟩
  subst ai
  refine sr (lv (n8 rfl rfl) (ns (A2 rfl (c6 (by omega)) (q7 (d4 (d4 (j5 ?_)))))))
  cases oi B
  exact qd ⟨_, l, rfl, rfl, f, m⟩
 rintro _ w8 ⟨s5, K6, rfl, rfl, H, aD⟩
 have d := C8 d
 refine qr (mv rfl (lv (F1 underlying9 rfl) ?_))
 obtain ⟨aE, aj, ak⟩ := ob d
 refine lk a2W (A7 F H.enter0 (a3o A) (by decide : d9 1) (by decide : d9 12) aj) ?_
 rintro aF aG ⟨al, rfl, am⟩
 have an := (H.c0 am).t0
 refine av rfl (nq (i9 ?_))
 cases oi ak
 exact ey results156 ⟨al, rfl, an⟩

theorem a9a (F : Nat) : ∀ {w : World} {K : C5} {k : Option Addr} {l o : Nat} {x : Option Addr} {y A : Nat} {gb14 : Nat} {q0 : r5} {q1 : Int} {r : Bool} (hS : SH w K [] w K []) (bH : d9 q0.Kind) (bj : q0.Field.length ≤ maxLen) (W : b7 B8 K k l o q0.Words) (aB : d9 q0.From) (bk : d9 q0.To) (X : b7 E4 K x y A q0.Kids) (bI : d9 q1) (hG15 : a9O O3 1 gb14 U1 w) (hm : G9 F q0 q1 = some r),
  Calls prog 100 #[.agg #[V6 q0.Kind, sv q0.Field, V3 k l o, V6 q0.From, V6 q0.To, V3 x y A], V6 q1] w (R_b w K r) := by
 induction F with
 | zero => intros; rename_i hm; rw [G9] at hm; cases hm
 | succ F ih =>
  intro w K k l o x y A gb14 q0 q1 r hS bH bj W aB bk X bI hG15 hm
  rw [G9] at hm
  refine ci func100 rfl ntmps100 (sr (bx rfl hS fun d dB bJ => ?_))
  have ak : SH _ _ _ _ _ [q8 d [V6 q0.Kind, sv q0.Field, V3 k l o, V6 q0.From, V6 q0.To, V3 x y A] 42] := bJ
  refine lv (M7 rfl) (nr (lv (b5W b9V rfl (hG15.keep ak)) (fl a34 rfl D8 m0 ak rfl (lv (show RV _ _ _ _ (.tuple #[.agg #[.bool ((u4 q0.Kind).field_), V6 ((u4 q0.Kind).leastWords_), V6 ((u4 q0.Kind).mostWords_), V6 ((u4 q0.Kind).low_), V6 ((u4 q0.Kind).high_), .bool ((u4 q0.Kind).ranged_), V6 ((u4 q0.Kind).leastKids_), V6 ((u4 q0.Kind).mostKids_)], .bool (P1 q0.Kind)]) from b5X (cells := O3) (m := U1) underlying193 underlying3 b6h rfl rfl (hG15.keep ak) c0b) (mv rfl (lv (B3 rfl rfl) (lv (B3 rfl rfl) (al b6h ak fun af dC bK => ?_))))))))
  have bL : SH _ _ _ _ _ [q8 af [.bool false, V6 0, V6 0, V6 0, V6 0, .bool false, V6 0, V6 0] 191, _] := bK
  refine lw [.bool ((u4 q0.Kind).field_), V6 ((u4 q0.Kind).leastWords_), V6 ((u4 q0.Kind).mostWords_), V6 ((u4 q0.Kind).low_), V6 ((u4 q0.Kind).high_), .bool ((u4 q0.Kind).ranged_), V6 ((u4 q0.Kind).leastKids_), V6 ((u4 q0.Kind).mostKids_)] b6h bL fun dD C => (av rfl (ns (k8 ?_)))
  obtain ⟨bM, bN, bO⟩ := ob hm
  refine j4 (IV w K [] K [(1, V6 q1), (2, pt d), (5, pt af), (41, .bool bM)] [q8 d [V6 q0.Kind, sv q0.Field, V3 k l o, V6 q0.From, V6 q0.To, V3 x y A] 42, q8 af [.bool ((u4 q0.Kind).field_), V6 ((u4 q0.Kind).leastWords_), V6 ((u4 q0.Kind).mostWords_), V6 ((u4 q0.Kind).low_), V6 ((u4 q0.Kind).high_), .bool ((u4 q0.Kind).ranged_), V6 ((u4 q0.Kind).leastKids_), V6 ((u4 q0.Kind).mostKids_)] 191]) ?_ ?_
  ·refine i7 (mv rfl (lv (y4 rfl) (mv rfl (bt bN (fun U aC => ?_) (fun U aC => ?_)))))
   ·refine lu U (lu U (lv (K5 rfl U rfl) (mv rfl ?_)))
    iterate 6 refine lu rfl ?_
    refine lv (K5 rfl rfl rfl) (mv rfl (lu rfl (lu rfl (lu rfl (u1 (uu rfl rfl) rfl (u1 (uu rfl rfl) rfl (u1 (uu rfl rfl) rfl (u1 (uu rfl rfl) rfl (lu rfl ?_)))))))))
    refine lv (K5 rfl rfl rfl) (d7 ?_)
    cases oi aC
    exact qd ⟨K, rfl, C.f1, kr⟩
   refine lg U (d6 rfl) (lg U (n8 rfl rfl) (lv (j9 rfl U rfl) (mv rfl (bt aC (fun D aD => ?_) (fun D aD => ?_)))))
   ·iterate 6 refine lu D ?_
    refine lv (K5 rfl D rfl) (mv rfl (lu rfl (lu rfl (lu rfl (u1 (uu rfl rfl) rfl (u1 (uu rfl rfl) rfl (u1 (uu rfl rfl) rfl (u1 (uu rfl rfl) rfl (lu rfl ?_)))))))))
    refine lv (K5 rfl rfl rfl) (d7 ?_)
    cases oi aD
    exact qd ⟨K, rfl, C.f1, kr⟩
   refine lg D (b8 b3t rfl) (lg D (l8 tf4 rfl m0 C rfl) (lg D (b8 Q1 rfl) (lg D (l8 D9 rfl m1 C rfl) (lg D (a0o (r := ([] : k6)) rfl rfl) (lg D (b4D underlying4 rfl rfl) (lv (j9 rfl D rfl) (mv rfl (bt aD (fun f aE => ?_) (fun f aE => ?_)))))))))
   ·refine lu f (lu f (lu f (u1 (uu rfl rfl) rfl (u1 (uu rfl rfl) rfl (u1 (uu rfl rfl) rfl (u1 (uu rfl rfl) rfl (lu f (lv (K5 rfl f rfl) (d7 ?_)))))))))
    cases oi aE
    exact qd ⟨K, rfl, C.f1, kr⟩
   refine lg f (b8 b3t rfl) (lg f (l8 tf4 rfl m0 C rfl) (lg f (d6 rfl) (bt aE (fun B aF => ?_) (fun B aF => ?_))))
   ·refine lg B (b8 Q1 rfl) (lg B (l8 D9 rfl m1 C rfl) ?_)
    obtain ⟨dE, bP, bQ⟩ := ob aF
    refine x9 (wg rfl rfl B) rfl (x8 (vs := [sv q0.Field]) a6d rfl) (E9 F C.enter0 bj bP) ?_
    rintro dF dG ⟨bR, rfl, bl⟩
    refine ⟨_, rfl, ?_⟩
    have bS := (C.c0 bl).t2
    refine lg B (y4 rfl) (lg f (j3 rfl B rfl) (lv (j9 rfl f rfl) (d7 ?_)))
    cases oi bQ
    exact qd ⟨bR, rfl, bS.f1, bl.le⟩
   refine lu B (lu B (lu B (lu B (lg f (F7 rfl B rfl) (lv (j9 rfl f rfl) (d7 ?_))))))
   cases oi aF
   exact qd ⟨K, rfl, C.f1, kr⟩
  rintro _ dH ⟨bm, rfl, Y, G⟩
  refine j6 (B5 bO rfl (fun bT aG => ?_) (fun bT aG => ?_))
  ·refine sr (lv (M7 rfl) (nq (rr ?_)))
   cases oi aG
   exact ey results100 ⟨bm, rfl, Y.s⟩
  refine i6 (qs (k8 ?_))
  obtain ⟨bU, bV, bW⟩ := ob aG
  refine j4 (IV w K [] bm [(1, V6 q1), (2, pt d), (5, pt af), (71, .bool bU)] [q8 d [V6 q0.Kind, sv q0.Field, V3 k l o, V6 q0.From, V6 q0.To, V3 x y A] 42, q8 af [.bool ((u4 q0.Kind).field_), V6 ((u4 q0.Kind).leastWords_), V6 ((u4 q0.Kind).mostWords_), V6 ((u4 q0.Kind).low_), V6 ((u4 q0.Kind).high_), .bool ((u4 q0.Kind).ranged_), V6 ((u4 q0.Kind).leastKids_), V6 ((u4 q0.Kind).mostKids_)] 191]) ?_ ?_
  ·refine i7 (fl V9 rfl O5 m0 Y rfl (lv (k9 underlying23 rfl (W.mono G)) (fl b6G rfl D8 m1 Y rfl (fl b6H rfl D8 m1 Y rfl ?_))))
   obtain ⟨dI, bX, bY⟩ := ob bV
   refine lk a2W (A7 F Y.enter0 (W.mono G).rn (b77 _) (b78 _) bX) ?_
   rintro dJ dK ⟨bZ, rfl, aa⟩
   have ab := (Y.c0 aa).t2
   refine lv (y4 rfl) (mv rfl (bt bY (fun i aH => ?_) (fun i aH => ?_)))
   ·iterate 9 refine lu i ?_
    refine lv (K5 rfl i rfl) (mv rfl ?_)
    iterate 8 refine lu rfl ?_
    refine lv (K5 rfl rfl rfl) (d7 ?_)
    cases oi aH
    exact qd ⟨bZ, rfl, ab, aa.le⟩
   refine lg i (b8 Q2 rfl) (lg i (l8 a2P rfl m0 ab rfl) (lg i (k9 underlying40 rfl (X.mono (G.trans aa.le))) (lg i (b8 b6K rfl) (lg i (l8 D8 rfl m1 ab rfl) (lg i (b8 b6L rfl) (lg i (l8 D8 rfl m1 ab rfl) ?_))))))
   obtain ⟨dL, ca, cb⟩ := ob aH
   refine x9 (wg rfl rfl i) rfl (x8 (vs := [V6 (q0.Kids.length : Int), V6 ((u4 q0.Kind).leastKids_), V6 ((u4 q0.Kind).mostKids_)]) a2W rfl) (A7 F ab.enter0 (X.mono (G.trans aa.le)).rn (b8b _) (b8c _) ca) ?_
   rintro dM dN ⟨cc, rfl, aI⟩
   refine ⟨_, rfl, ?_⟩
   have ac := (ab.c0 aI).t2
   refine lg i (y4 rfl) (lv (j9 rfl i rfl) (mv rfl (bt cb (fun q aJ => ?_) (fun q aJ => ?_))))
   ·iterate 8 refine lu q ?_
    refine lv (K5 rfl q rfl) (d7 ?_)
    cases oi aJ
    exact qd ⟨cc, rfl, ac, (aa.le.trans aI.le)⟩
   refine lg q (b8 X6 rfl) (lg q (l8 D8 rfl m0 ac rfl) (lg q (b8 b6I rfl) (lg q (l8 D8 rfl m1 ac rfl) (lg q (b8 b6J rfl) (lg q (l8 D8 rfl m1 ac rfl) ?_)))))
   obtain ⟨dO, cd, ce⟩ := ob aJ
   refine x9 (wg rfl rfl q) rfl (x8 (vs := [V6 q0.From, V6 ((u4 q0.Kind).low_), V6 ((u4 q0.Kind).high_)]) a2W rfl) (A7 F ac.enter0 aB (b79 _) (b8a _) cd) ?_
   rintro dP dQ ⟨cf, rfl, bn⟩
   refine ⟨_, rfl, ?_⟩
   have cg := (ac.c0 bn).t2
   refine lg q (y4 rfl) (lv (j9 rfl q rfl) (d7 ?_))
   cases oi ce
   exact qd ⟨cf, rfl, cg, ((aa.le.trans aI.le).trans bn.le)⟩
  rintro _ dR ⟨am, rfl, H, ad⟩
  refine j6 (B5 bW rfl (fun ch aK => ?_) (fun ch aK => ?_))
  ·refine sr (lv (M7 rfl) (nq (rr ?_)))
   cases oi aK
   exact ey results100 ⟨am, rfl, H.s⟩
  refine i6 (qs (k8 ?_))
  obtain ⟨cj, ck, cl⟩ := ob aK
  refine j4 (IV w K [] am [(1, V6 q1), (2, pt d), (91, .bool cj)] [q8 d [V6 q0.Kind, sv q0.Field, V3 k l o, V6 q0.From, V6 q0.To, V3 x y A] 42]) ?_ ?_
  ·refine i7 (fl b0M rfl tf4 m1 H rfl (mv rfl (bt ck (fun I aL => ?_) (fun I aL => ?_))))
   ·refine lg I (b8 a14 rfl) (lg I (l8 D8 rfl m0 H rfl) (lg I (b8 X6 rfl) (lg I (l8 D8 rfl m0 H rfl) ?_)))
    obtain ⟨dS, cm, cn⟩ := ob aL
    refine x9 (wg rfl rfl I) rfl (x8 (vs := [V6 q0.To, V6 q0.From, V6 999999999]) a2W rfl) (A7 F H.enter0 bk aB (by decide : d9 999999999) cm) ?_
    rintro dT dU ⟨aM, rfl, an⟩
    refine ⟨_, rfl, ?_⟩
    have ag := (H.c0 an).t2
    refine lg I (y4 rfl) (lv (j3 rfl I rfl) (mv rfl (bt cn (fun a aN => ?_) (fun a aN => ?_))))
    ·refine lu a (lu a (lu a (lu a (u1 (uu rfl rfl) rfl (u1 (uu rfl rfl) rfl (u1 (uu rfl rfl) rfl (lu a (lv (K5 rfl a rfl) (d7 ?_)))))))))
     cases oi aN
     exact qd ⟨aM, rfl, ag.s, an.le⟩
    refine lg a (b8 b0M rfl) (lg a (l8 tf4 rfl m1 ag rfl) (lg a (y4 rfl) (lg a (d6 rfl) (bt aN (fun O aO => ?_) (fun O aO => ?_)))))
    ·refine lg O (b8 a14 rfl) (lg O (l8 D8 rfl m0 ag rfl) (lg O (W3 rfl rfl) (lg a (j3 rfl O rfl) (lv (j9 rfl a rfl) (d7 ?_)))))
     cases oi aO
     exact qd ⟨aM, rfl, ag.s, an.le⟩
    refine lu O (lu O (lu O (lg a (F7 rfl O rfl) (lv (j9 rfl a rfl) (d7 ?_)))))
    cases oi aO
    exact qd ⟨aM, rfl, ag.s, an.le⟩
   iterate 6 refine lu I ?_
   refine lv (F7 rfl I rfl) (mv rfl (lg rfl (b8 b0M rfl) (lg rfl (l8 tf4 rfl m1 H rfl) (lg rfl (y4 rfl) (lg rfl (d6 rfl) (bt aL (fun R aP => ?_) (fun R aP => ?_)))))))
   ·refine lg R (b8 a14 rfl) (lg R (l8 D8 rfl m0 H rfl) (lg R (W3 rfl rfl) (lg rfl (j3 rfl R rfl) (lv (j9 rfl rfl rfl) (d7 ?_)))))
    cases oi aP
    exact qd ⟨am, rfl, H.s, kr⟩
   refine lu R (lu R (lu R (lg rfl (F7 rfl R rfl) (lv (j9 rfl rfl rfl) (d7 ?_)))))
   cases oi aP
   exact qd ⟨am, rfl, H.s, kr⟩
  rintro _ dV ⟨ao, rfl, aQ, ae⟩
  refine j6 (B5 cl rfl (fun cp aR => ?_) (fun cp aR => ?_))
  ·refine sr (lv (M7 rfl) (nq (rr ?_)))
   cases oi aR
   exact ey results100 ⟨ao, rfl, aQ.s⟩
  refine i6 (qs (sr (fl V9 rfl O5 m0 aQ rfl (lv (k9 underlying23 rfl (W.mono ((G.trans ad).trans ae))) (lv (r_m rfl) (nq ?_))))))
  obtain ⟨cq, cr, ap⟩ := ob aR
  refine j4 (IE cq w K [] ao [(1, V6 q1), (2, pt d)] [q8 d [V6 q0.Kind, sv q0.Field, V3 k l o, V6 q0.From, V6 q0.To, V3 x y A] 42]) ?_ ?_
  ·refine i5 ?_
   obtain ⟨dW, cs, bo⟩ := ob cr
   refine qf (fun (aS : Nat) (bp : Unit) => IV w K [] ao [(1, V6 q1), (2, pt d), (93, V3 k l o), (94, V6 (q0.Words.length : Int)), (95, V6 ((aS : Nat) : Int))] [q8 d [V6 q0.Kind, sv q0.Field, V3 k l o, V6 q0.From, V6 q0.To, V3 x y A] 42]) cs ⟨ao, rfl, aQ, kr⟩ ?_ ?_
   ·rintro aS bp _ ct dX hi150 cu cv ⟨aq, rfl, J, ar⟩
    refine sr (lv (n8 rfl rfl) (ns (A3 rfl (c7 (by omega)) (i6 (j6 (k8 (i5 (sr ?_))))))))
    obtain ⟨ah, cw, cx⟩ := ob cu
    refine li underlying23 D9 (b7.mono (((G.trans ad).trans ae).trans ar) W) cw fun cy cz dY cA cB => ?_
    obtain ⟨rfl, au⟩ := cA
    have cC : D0 _ cy cz [sv ah] := cB
    refine lv (u0 D9 rfl J (cC 0 _ rfl)) (av rfl (ns ?_))
    obtain ⟨cD, cE, cF⟩ := ob cx
    refine j4 (IV w K [] aq [(1, V6 q1), (2, pt d), (93, V3 k l o), (94, V6 (q0.Words.length : Int)), (95, V6 ((aS : Nat) : Int)), (120, .bool cD)] [q8 d [V6 q0.Kind, sv q0.Field, V3 k l o, V6 q0.From, V6 q0.To, V3 x y A] 42]) ?_ ?_
    ·refine i7 (fl a34 rfl D8 m0 J rfl (lv (u3 rfl rfl) (mv rfl (bt cE (fun b aT => ?_) (fun b aT => ?_)))))
     ·refine lg b (d6 rfl) ?_
      obtain ⟨dZ, cG, cH⟩ := ob aT
      refine x9 (wg rfl rfl b) rfl (x8 (vs := [sv ah]) b7s rfl) (a4R F J.enter0 au cG) ?_
      rintro ea eb ⟨cI, rfl, ai⟩
      refine ⟨_, rfl, ?_⟩
      have aU := (J.c0 ai).t1
      refine lg b (y4 rfl) (lg b (d6 rfl) (bt cH (fun V aV => ?_) (fun V aV => ?_)))
      ·refine lu V (lu V (lg b (K5 rfl V rfl) (lv (j3 rfl b rfl) (mv rfl (lu rfl (lu rfl (lu rfl (lu rfl (u1 (uu rfl rfl) rfl ?_)))))))))
       refine u1 (uu rfl rfl) rfl (u1 (uu rfl rfl) rfl (lu rfl (lv (K5 rfl rfl rfl) (d7 ?_))))
       cases oi aV
       exact qd ⟨cI, rfl, aU, ai.le⟩
      refine lg V (d6 rfl) ?_
      obtain ⟨ec, cJ, cK⟩ := ob aV
      refine x9 (wg rfl rfl V) rfl (x8 (vs := [sv ah]) a6d rfl) (E9 F aU.enter0 au cJ) ?_
      rintro ed ee ⟨bq, rfl, aw⟩
      refine ⟨_, rfl, ?_⟩
      have aj := (aU.c0 aw).t1
      refine lg b (j9 rfl V rfl) (lv (j3 rfl b rfl) (mv rfl (bt cK (fun c aW => ?_) (fun c aW => ?_))))
      ·refine lu c (lu c (lu c (lu c (u1 (uu rfl rfl) rfl (u1 (uu rfl rfl) rfl (u1 (uu rfl rfl) rfl (lu c (lv (K5 rfl c rfl) (d7 ?_)))))))))
       cases oi aW
       exact qd ⟨bq, rfl, aj, (ai.le.trans aw.le)⟩
      refine lg c (b8 a34 rfl) (lg c (l8 D8 rfl m0 aj rfl) (lg c (W3 rfl rfl) (lg c (d6 rfl) (bt aW (fun S aX => ?_) (fun S aX => ?_)))))
      ·refine lg S (d6 rfl) ?_
       obtain ⟨ef, cL, cM⟩ := ob aX
       refine x9 (wg rfl rfl S) rfl (x8 (vs := [sv ah]) a6d rfl) (E9 F aj.enter0 au cL) ?_
       rintro eg eh ⟨cN, rfl, br⟩
       refine ⟨_, rfl, ?_⟩
       have cO := (aj.c0 br).t1
       refine lg S (y4 rfl) (lg c (j3 rfl S rfl) (lv (j9 rfl c rfl) (d7 ?_)))
       cases oi cM
       exact qd ⟨cN, rfl, cO, ((ai.le.trans aw.le).trans br.le)⟩
      refine lu S (lu S (lu S (lg c (F7 rfl S rfl) (lv (j9 rfl c rfl) (d7 ?_)))))
      cases oi aX
      exact qd ⟨bq, rfl, aj, (ai.le.trans aw.le)⟩
     refine lu b (lu b (lu b (lu b (u1 (uu rfl rfl) rfl (u1 (uu rfl rfl) rfl (lu b (lv (F7 rfl b rfl) (mv rfl (lg rfl (b8 a34 rfl) ?_)))))))))
     refine lg rfl (l8 D8 rfl m0 J rfl) (lg rfl (W3 rfl rfl) (lg rfl (d6 rfl) (bt aT (fun T aY => ?_) (fun T aY => ?_))))
     ·refine lg T (d6 rfl) ?_
      obtain ⟨ei, cP, cQ⟩ := ob aY
      refine x9 (wg rfl rfl T) rfl (x8 (vs := [sv ah]) a6d rfl) (E9 F J.enter0 au cP) ?_
      rintro ej ek ⟨cR, rfl, bs⟩
      refine ⟨_, rfl, ?_⟩
      have cS := (J.c0 bs).t1
      refine lg T (y4 rfl) (lg rfl (j3 rfl T rfl) (lv (j9 rfl rfl rfl) (d7 ?_)))
      cases oi cQ
      exact qd ⟨cR, rfl, cS, bs.le⟩
     refine lu T (lu T (lu T (lg rfl (F7 rfl T rfl) (lv (j9 rfl rfl rfl) (d7 ?_)))))
     cases oi aY
     exact qd ⟨aq, rfl, J, kr⟩
    rintro _ el ⟨bu, rfl, bv, cT⟩
    refine j6 (B5 cF rfl (fun cU aZ => ?_) (fun cU aZ => ?_))
    ·refine sr (lv (M7 rfl) (nq (i9 (d8 (c9 (c9 ?_))))))
     cases oi aZ
     cases cv _ rfl
     refine d8 (c9 ?_)
     cases oi bo
     refine c9 ?_
     cases oi ap
     exact ey results100 ⟨bu, rfl, bv.s⟩
    refine i6 (o0 (qg (lv (y3 rfl rfl (A0 hi150 (b7.max (W.mono ((G.trans ad).trans ae))))) (mv rfl (d7 ?_)))))
    cases oi aZ
    exact qd ⟨_, rfl, bu, rfl, bv, (ar.trans cT)⟩
   rintro bp _ ct cV ⟨aq, rfl, J, ar⟩
   subst cV
   refine sr (lv (n8 rfl rfl) (ns (A2 rfl (c6 (by omega)) (q7 (d4 (d4 (j5 ?_)))))))
   cases oi bo
   exact qd ⟨_, aq, rfl, rfl, J, ar⟩
  rintro _ em ⟨en, ba, rfl, rfl, bz, bb⟩
  have ap := C8 ap
  refine qs (sr (fl Q2 rfl a2P m0 bz rfl (lv (k9 underlying40 rfl (b7.mono (((G.trans ad).trans ae).trans bb) X)) (lv (r_m rfl) (nq ?_)))))
  obtain ⟨cW, cX, ax⟩ := ob ap
  refine j4 (IE cW w K [] ba [] []) ?_ ?_
  ·refine i5 ?_
   obtain ⟨eo, cY, bA⟩ := ob cX
   have cZ := bz.sb (sd sz)
   refine qf (fun (bB : Nat) (bC : Unit) => IV w K [] ba [(1, V6 q1), (123, V3 x y A), (124, V6 (q0.Kids.length : Int)), (125, V6 ((bB : Nat) : Int))] []) cY ⟨ba, rfl, cZ, kr⟩ ?_ ?_
   ·rintro bB bC _ da ep hi237 db dc ⟨bD, rfl, ay, az⟩
    refine sr (lv (n8 rfl rfl) (ns (A3 rfl (c7 (by omega)) (i6 (j6 (k8 (i5 (sr ?_))))))))
    obtain ⟨s, dd, de⟩ := ob db
    refine li underlying40 C3 (b7.mono ((((G.trans ad).trans ae).trans bb).trans az) X) dd fun df dg eq dh di => ?_
    obtain ⟨bc, bd, be, bf, bg, bh, rfl, dj, dk, dl, dm, dn, dp⟩ := L4 dh
    have dq : D0 _ df dg [V6 s.Kind, sv s.Field, V3 bc bd be, V6 s.From, V6 s.To, V3 bf bg bh] := di
    refine lv (D4 C3 rfl ay dq rfl) (al C3 ay fun dr es dt => ?_)
    have du : SH _ _ _ _ _ [q8 dr [V6 0, sv [], V3 none 0 0, V6 0, V6 0, V3 none 0 0] 42] := dt
    refine lw [V6 s.Kind, sv s.Field, V3 bc bd be, V6 s.From, V6 s.To, V3 bf bg bh] C3 du fun et aA => (nr (lv (l3 (ds := [V6 s.Kind, sv s.Field, V3 bc bd be, V6 s.From, V6 s.To, V3 bf bg bh]) C3 rfl m0 aA rfl rfl) (mv rfl (lv (F2 rfl rfl) ?_))))
    obtain ⟨eu, dv, dw⟩ := ob de
    refine lk b7l (ih aA.enter0 dj dk dl dm dn dp (l9 _) (hG15.keep aA) dv) ?_
    rintro ev ew ⟨bE, rfl, bF⟩
    have bG := (aA.c0 bF).t1
    refine lv (y4 rfl) (nq (B5 dw rfl (fun dx bi => ?_) (fun dx bi => ?_)))
    ·refine sr (lv (M7 rfl) (nq (i9 (d8 (c9 (c9 ?_))))))
     cases oi bi
     cases dc _ rfl
     refine d8 (c9 ?_)
     cases oi bA
     refine c9 ?_
     cases oi ax
     exact ey results100 ⟨bE, rfl, bG.s⟩
    refine i6 (o0 (qg (lv (y3 rfl rfl (A0 hi237 (b7.max (b7.mono (((G.trans ad).trans ae).trans bb) X)))) (mv rfl (d7 ?_)))))
    cases oi bi
    exact qd ⟨_, rfl, bE, rfl, bG.s, (az.trans bF.le)⟩
   rintro bC _ da dy ⟨bD, rfl, ay, az⟩
   subst dy
   refine sr (lv (n8 rfl rfl) (ns (A2 rfl (c6 (by omega)) (q7 (d4 (d4 (j5 ?_)))))))
   cases oi bA
   exact H9 ⟨_, bD, rfl, rfl, ay, az⟩ trivial
  rintro _ ex ⟨eA, dz, rfl, rfl, dA, eB⟩
  have ax := C8 ax
  refine qr (lv (r_t rfl) (nq (i9 ?_)))
  cases oi ax
  exact ey results100 ⟨dz, rfl, dA⟩

theorem a4h {q0 : r5} {r : Bool} (hS : SH w K [] w K []) (k : d9 q0.Kind) (l : q0.Field.length ≤ maxLen) (m : b7 B8 K A a b q0.Words) (o : d9 q0.From) (q : d9 q0.To) (s : b7 E4 K B c d q0.Kids) (hG14 : a9O O3 1 f U1 w) (hm : U5 F q0 = some r) :
  Calls prog 43 #[.agg #[V6 q0.Kind, sv q0.Field, V3 A a b, V6 q0.From, V6 q0.To, V3 B c d]] w (R_b w K r) := by
 rw [U5] at hm
 refine ci func43 rfl ntmps43 (sr (bx rfl hS fun x J y => ?_))
 have i : SH _ _ _ _ _ [q8 x [V6 q0.Kind, sv q0.Field, V3 A a b, V6 q0.From, V6 q0.To, V3 B c d] 42] := y
 refine lv (M7 rfl) (nr (lv (l3 (ds := [V6 q0.Kind, sv q0.Field, V3 A a b, V6 q0.From, V6 q0.To, V3 B c d]) C3 rfl m0 i rfl rfl) ?_))
 obtain ⟨O, C, D⟩ := ob hm
 refine lk b7l (a9a F i.enter0 k l m o q s (by decide : d9 4) (hG14.keep i) C) ?_
 rintro R S ⟨G, rfl, H⟩
 have I := (i.c0 H).t1
 refine av rfl (nq (i9 ?_))
 cases oi D
 exact ey results43 ⟨G, rfl, I.s⟩

theorem a4i {q0 : Int} {q1 : Int} {r : Int} (hS : SH w K [] w K []) (l : d9 q0) (m : d9 q1) (hm : U8 F q0 q1 = some r) :
  Calls prog 154 #[V6 q0, V6 q1] w (R_i w K r) := by
 rw [U8] at hm
 refine ci func154 rfl ntmps154 (sr (lv (L3 rfl) (ns ?_)))
 obtain ⟨c, o, q⟩ := ob hm
 refine j4 (IW w K [] K [(0, V6 c)] [] (d9 c)) ?_ ?_
 ·refine i5 ?_
  obtain ⟨T, s, x⟩ := ob o
  refine qw (fun (a : Int × Int) => IW w K [] K [(0, V6 a.1), (1, V6 a.2)] [] (d9 a.1 ∧ d9 a.2)) s ⟨K, rfl, hS, kr, l, m⟩ ?_
  rintro a _ U V y A ⟨B, rfl, d, f, i, C⟩
  refine k8 (sr (mv rfl (lv (W3 rfl rfl) (nq (B5 y rfl (fun D b => ?_) (fun D b => ?_))))))
  ·refine i6 (j6 (i5 (C2 mixed (by kernel_rfl) d (km rfl (km rfl (km rfl ?_))))))
   obtain ⟨W, k, G⟩ := ob b
   refine kv (a7h rfl rfl k) (kv (r9 rfl) (kv (r9 rfl) (z7 ?_)))
   rintro X ⟨H, I, J⟩
   refine o0 ?_
   cases oi G
   exact qd ⟨_, rfl, H, rfl, I, (f.trans J), C, (a8I i k)⟩
  refine q7 (d4 (d4 ?_))
  cases oi b
  cases A _ rfl
  refine j5 ?_
  cases oi x
  exact qd ⟨B, rfl, d, f, i⟩
 rintro _ Y ⟨O, rfl, R, aa, S⟩
 refine qr (mv rfl (mv rfl (lv (a47 rfl) (lv (b3Q rfl rfl) (av rfl (nq (i9 ?_)))))))
 cases oi q
 exact ey results154 ⟨O, rfl, R, (b3K S (l9 _))⟩

theorem a5A {q0 : a3G} {r : Bool} (hS : SH w K [] w K []) (l : d9 q0.Up) (m : d9 q0.Down) (hm : a0R F q0 = some r) :
  Calls prog 98 #[.agg #[V6 q0.Up, V6 q0.Down]] w (R_b w K r) := by
 rw [a0R] at hm
 refine ci func98 rfl ntmps98 (sr (bx rfl hS fun g3 R o => ?_))
 have f : SH _ _ _ _ _ [q8 g3 [V6 q0.Up, V6 q0.Down] 73] := o
 refine lv (M7 rfl) (nr (fl b0N rfl D8 m0 f rfl ?_))
 obtain ⟨S, q, s⟩ := ob hm
 refine lk a2W (A7 F f.enter0 l (by decide : d9 (-1000000000)) (by decide : d9 1000000000) q) ?_
 rintro T U ⟨x, rfl, y⟩
 have d := (f.c0 y).t1
 refine mv rfl (bt s (fun b i => ?_) (fun b i => ?_))
 ·refine lg b (b8 a6T rfl) (lg b (l8 D8 rfl m0 d rfl) ?_)
  obtain ⟨V, A, B⟩ := ob i
  refine x9 (wg rfl rfl b) rfl (x8 (vs := [V6 q0.Down, V6 1, V6 1000000000]) a2W rfl) (A7 F d.enter0 m (by decide : d9 1) (by decide : d9 1000000000) A) ?_
  rintro W X ⟨C, rfl, D⟩
  refine ⟨_, rfl, ?_⟩
  have c := (d.c0 D).t1
  refine lv (j3 rfl b rfl) (mv rfl (bt B (fun a k => ?_) (fun a k => ?_)))
  ·refine lg a (b8 b0N rfl) (lg a (l8 D8 rfl m0 c rfl) (lg a (b8 a6T rfl) (lg a (l8 D8 rfl m0 c rfl) ?_)))
   obtain ⟨Y, G, H⟩ := ob k
   refine x9 (wg rfl rfl a) rfl (x8 (vs := [V6 q0.Up, V6 q0.Down]) b7r rfl) (a4i F c.enter0 l m G) ?_
   rintro aa ab ⟨I, rfl, J, ac⟩
   refine ⟨_, rfl, ?_⟩
   have O := (c.c0 J).t1
   refine lg a (u3 rfl rfl) (lv (j3 rfl a rfl) (av rfl (nq (i9 ?_))))
   cases oi H
   exact ey results98 ⟨I, rfl, O.s⟩
  iterate 6 refine lu a ?_
  refine lv (F7 rfl a rfl) (av rfl (nq (i9 ?_)))
  cases oi k
  exact ey results98 ⟨C, rfl, c.s⟩
 refine lu b (lu b (lu b (lv (F7 rfl b rfl) (mv rfl ?_))))
 iterate 6 refine lu rfl ?_
 refine lv (F7 rfl rfl rfl) (av rfl (nq (i9 ?_)))
 cases oi i
 exact ey results98 ⟨x, rfl, d.s⟩

theorem a89 {q0 : Int} {q1 : Int} {r : a3G × Bool} (hS : SH w K [] w K []) (B : d9 q0) (C : d9 q1) (hm : a2j F q0 q1 = some r) :
  Calls prog 153 #[V6 q0, V6 q1] w fun e w' => ∃ K', e = .returned (.tuple #[.agg #[V6 r.1.Up, V6 r.1.Down], .bool r.2]) ∧ SH w K [] w' K' [] ∧ d9 r.1.Up ∧ d9 r.1.Down := by
 rw [a2j] at hm
 refine ci func153 rfl ntmps153 (sr (al W5 hS fun g3 w4 D => ?_))
 have o : SH _ _ _ _ _ [q8 g3 [V6 0, V6 0] 73] := D
 refine lv (M7 rfl) (P6 (mv rfl (lv (n8 rfl rfl) (nq ?_))))
 obtain ⟨d, G, H⟩ := ob hm
 refine j4 (IW w K [] K [(0, V6 d.1), (1, V6 d.2), (4, pt g3)] [q8 g3 [V6 0, V6 0] 73] (d9 d.1 ∧ d9 d.2)) ?_ ?_
 ·refine B5 G rfl (fun I i => ?_) (fun I i => ?_)
  ·refine i7 (mv rfl (lv (a47 rfl) (mv rfl (lv (a47 rfl) (av rfl (av rfl (d7 ?_)))))))
   cases oi i
   exact qd ⟨K, rfl, o, kr, (l9 _), (l9 _)⟩
  refine i6 ?_
  cases oi i
  exact qd ⟨K, rfl, o, kr, B, C⟩
 rintro _ ah ⟨ai, rfl, q, aj, J, O⟩
 refine qr (mv rfl (mv rfl ?_))
 obtain ⟨ak, R, S⟩ := ob H
 refine lk b7r (a4i F q.enter0 J O R) ?_
 rintro am an ⟨T, rfl, U, ao⟩
 have V := (q.c0 U).t1
 refine av rfl (ns ?_)
 have s := V.drew
 refine wh1 (fun w' => E7 T w') (fun w' => True) 9 [] mixed (s.hasK kr) (fun _ => trivial) (gt (d6 rfl) (gt (d6 rfl) ?_))
 obtain ⟨a, k, W⟩ := ob S
 refine gt (a2d rfl rfl k) (gt (d6 rfl) (gt (d6 rfl) ?_))
 obtain ⟨b, l, X⟩ := ob W
 refine gt (a2d rfl rfl l) (gt (A5 (cs := #[V6 a, V6 b]) b9T W5 rfl (by kernel_rfl)) (gn (al W5 s fun Y ap aa => ?_)))
 have x : SH _ _ _ _ _ [q8 Y [V6 0, V6 0] 73, _] := aa
 refine d7 (qh (x.hasK kr) (fun _ => trivial) (gn (lw [V6 a, V6 b] W5 x fun aq f => (d7 (qh (f.hasK kr) (fun _ => trivial) (gd' (qs (sr (lv (l3 (ds := [V6 a, V6 b]) W5 rfl m0 f rfl rfl) ?_)))))))))
 obtain ⟨ar, ab, ac⟩ := ob X
 refine lk b9J ((a5A F (q0 := (a3G.mk a b))) f.enter0 (a1V k) (a1V l) ab) ?_
 rintro au aw ⟨ad, rfl, ae⟩
 have y := (f.c0 ae).t2
 refine lv (y4 rfl) (nq (B5 ac rfl (fun af m => ?_) (fun af m => ?_)))
 ·refine sr ?_
  cases m
 refine i6 (qr (lv (l3 (ds := [V6 a, V6 b]) W5 rfl m0 y rfl rfl) (lw [V6 a, V6 b] W5 y.f1 fun ax A => (lv (r_t rfl) (nq (i9 ?_))))))
 cases oi m
 exact R8 (vs := [_, _]) results153 ⟨⟨_, _, rfl, A8 W5 (cs := [V6 a, V6 b]) (fun j c e => by rw [Nat.zero_add, A.mem_obj m0]; exact e) (.inl ⟨rfl, rfl, rfl⟩)⟩, rfl, trivial⟩ ⟨ad, rfl, A.s, (a1V k), (a1V l)⟩

theorem a9U {q0 : Int} {q1 : Int} {r : a3G × Bool} (hS : SH w K [] w K []) (q : d9 q0) (s : d9 q1) (hm : a1J F q0 q1 = some r) :
  Calls prog 97 #[V6 q0, V6 q1] w fun e w' => ∃ K', e = .returned (.tuple #[.agg #[V6 r.1.Up, V6 r.1.Down], .bool r.2]) ∧ SH w K [] w' K' [] ∧ d9 r.1.Up ∧ d9 r.1.Down := by
 rw [a1J] at hm
 refine ci func97 rfl ntmps97 (sr (al W5 hS fun g3 w4 D => ?_))
 have x : SH _ _ _ _ _ [q8 g3 [V6 0, V6 0] 73] := D
 refine lv (M7 rfl) (ns (k8 ?_))
 obtain ⟨G, H, I⟩ := ob hm
 refine j4 (IV w K [] K [(0, V6 q0), (1, V6 q1), (4, pt g3), (17, .bool G)] [q8 g3 [V6 0, V6 0] 73]) ?_ ?_
 ·refine i7 (mv rfl ?_)
  obtain ⟨ae, J, O⟩ := ob H
  refine lk a2W (A7 F x.enter0 q (by decide : d9 (-1000000000)) (by decide : d9 1000000000) J) ?_
  rintro af ag ⟨R, rfl, d⟩
  have i := (x.c0 d).t1
  refine lv (y4 rfl) (mv rfl (bt O (fun a k => ?_) (fun a k => ?_)))
  ·refine lu a (lu a (lu a (lv (K5 rfl a rfl) (mv rfl (lu rfl (lu rfl (lv (K5 rfl rfl rfl) (d7 ?_))))))))
   cases oi k
   exact qd ⟨R, rfl, i, d.le⟩
  refine lg a (d6 rfl) ?_
  obtain ⟨ah, S, T⟩ := ob k
  refine x9 (wg rfl rfl a) rfl (x8 (vs := [V6 q1, V6 (-1000000000), V6 1000000000]) a2W rfl) (A7 F i.enter0 s (by decide : d9 (-1000000000)) (by decide : d9 1000000000) S) ?_
  rintro ai aj ⟨y, rfl, l⟩
  refine ⟨_, rfl, ?_⟩
  have A := (i.c0 l).t1
  refine lg a (y4 rfl) (lv (j9 rfl a rfl) (mv rfl (bt T (fun b m => ?_) (fun b m => ?_))))
  ·refine lu b (lu b (lv (K5 rfl b rfl) (d7 ?_)))
   cases oi m
   exact qd ⟨y, rfl, A, (d.le.trans l.le)⟩
  refine lg b (d6 rfl) (lg b (u3 rfl rfl) (lv (j9 rfl b rfl) (d7 ?_)))
  cases oi m
  exact qd ⟨y, rfl, A, (d.le.trans l.le)⟩
 rintro _ ak ⟨am, rfl, B, an⟩
 refine j6 (B5 I rfl (fun U o => ?_) (fun U o => ?_))
 ·refine sr ?_
  cases o
 refine i6 (qr (mv rfl (mv rfl ?_)))
 obtain ⟨f, V, W⟩ := ob o
 refine lk b81 (a89 F B.enter0 q s V) ?_
 rintro ao ap ⟨X, rfl, Y, aa, ab⟩
 have ac := (B.c0 Y).t1
 refine lv (B3 rfl rfl) (lv (B3 rfl rfl) (lw [V6 f.1.Up, V6 f.1.Down] W5 ac fun aq C => (av rfl (nq (i9 ?_)))))
 cases oi W
 exact R8 (vs := [_, _]) results97 ⟨⟨_, _, rfl, A8 W5 (cs := [V6 f.1.Up, V6 f.1.Down]) (fun j c e => by rw [Nat.zero_add, C.mem_obj m0]; exact e) (.inl ⟨rfl, rfl, rfl⟩)⟩, rfl, trivial⟩ ⟨X, rfl, C.s, aa, ab⟩

theorem a62 {q0 : a3G} {q1 : Int} {r : Int} (hS : SH w K [] w K []) (x : d9 q0.Up) (y : d9 q0.Down) (A : d9 q1) (hm : Y6 F q0 q1 = some r) :
  Calls prog 41 #[.agg #[V6 q0.Up, V6 q0.Down], V6 q1] w (R_i w K r) := by
 rw [Y6] at hm
 refine ci func41 rfl ntmps41 (sr (bx rfl hS fun c w5 B => ?_))
 have d : SH _ _ _ _ _ [q8 c [V6 q0.Up, V6 q0.Down] 73] := B
 refine lv (L3 rfl) (ns (k8 ?_))
 obtain ⟨C, D, G⟩ := ob hm
 refine j4 (IV w K [] K [(1, V6 q1), (2, pt c), (13, .bool C)] [q8 c [V6 q0.Up, V6 q0.Down] 73]) ?_ ?_
 ·refine i7 (lv (l3 (ds := [V6 q0.Up, V6 q0.Down]) W5 rfl m0 d rfl rfl) ?_)
  obtain ⟨ab, H, I⟩ := ob D
  refine lk b9J (a5A F d.enter0 x y H) ?_
  rintro ac ad ⟨J, rfl, f⟩
  have i := (d.c0 f).t1
  refine lv (y4 rfl) (mv rfl (bt I (fun a k => ?_) (fun a k => ?_)))
  ·refine lu a (lu a (lu a (lv (K5 rfl a rfl) (d7 ?_))))
   cases oi k
   exact qd ⟨J, rfl, i, f.le⟩
  refine lg a (d6 rfl) ?_
  obtain ⟨ae, O, R⟩ := ob k
  refine x9 (wg rfl rfl a) rfl (x8 (vs := [V6 q1, V6 1, V6 1000]) a2W rfl) (A7 F i.enter0 A (by decide : d9 1) (by decide : d9 1000) O) ?_
  rintro af ag ⟨S, rfl, q⟩
  refine ⟨_, rfl, ?_⟩
  have T := (i.c0 q).t1
  refine lg a (y4 rfl) (lv (j9 rfl a rfl) (d7 ?_))
  cases oi R
  exact qd ⟨S, rfl, T, (f.le.trans q.le)⟩
 rintro _ ah ⟨l, rfl, b, ai⟩
 refine j6 (B5 G rfl (fun U m => ?_) (fun U m => ?_))
 ·refine sr (lv (L3 rfl) (nq (rr ?_)))
  cases oi m
  exact ey results41 ⟨l, rfl, b.s, I0⟩
 refine i6 (qr (fl b0N rfl D8 m0 b rfl (mv rfl (lv (I9 rfl rfl) (av rfl (P6 (mv rfl (lv (a2F rfl rfl) (nq ?_)))))))))
 refine B5 m rfl (fun V o => ?_) (fun V o => ?_)
 ·refine sr (mv rfl (fl a6T rfl D8 m0 b rfl ?_))
  obtain ⟨aj, s, W⟩ := ob o
  refine lv (a2d rfl rfl s) (av rfl (nq (rr ?_)))
  cases oi W
  exact ey results41 ⟨l, rfl, b.s, (a1V s)⟩
 refine i6 (qr (mv rfl (lv (a47 rfl) (fl a6T rfl D8 m0 b rfl (lv (s6 rfl rfl) (lv (F2 rfl rfl) (fl a6T rfl D8 m0 b rfl ?_)))))))
 obtain ⟨ak, X, Y⟩ := ob o
 refine lv (a2d rfl rfl X) (lv (a47 rfl) (av rfl (nq (i9 ?_))))
 cases oi Y
 exact ey results41 ⟨l, rfl, b.s, (l9 _)⟩

theorem a60 {q0 : s7} {q1 : k6} {r : k6} (hS : SH w K [] w K []) (O : d9 q0.Id) (f : b7 F3 K A a b q0.Fields) (R : b7 G5 K B c d q0.Nums) (ay : q1.length ≤ maxLen) (hm : P2 F q0 q1 = some r) :
  Calls prog 146 #[.agg #[V6 q0.Id, V3 A a b, V3 B c d], sv q1] w fun e w' => ∃ K', e = .returned (sv r) ∧ SH w K [] w' K' [] ∧ r.length ≤ maxLen := by
 rw [P2] at hm
 refine ci func146 rfl ntmps146 (sr (bx rfl hS fun S az T => ?_))
 have y : SH _ _ _ _ _ [q8 S [V6 q0.Id, V3 A a b, V3 B c d] 54] := T
 refine lv (r_s rfl) (P6 (lv (l3 (ds := [V6 q0.Id, V3 A a b, V3 B c d]) C0 rfl m0 y rfl rfl) ?_))
 obtain ⟨aA, U, V⟩ := ob hm
 refine lk b5l (a3x F y.enter0 O f R U) ?_
 rintro aB aC ⟨i, rfl, k⟩
 have C := (y.c0 k).t1
 refine nq (B5 V rfl (fun W D => ?_) (fun W D => ?_))
 ·refine sr (fl W0 rfl a3Y m0 C rfl (lv (k9 underlying51 rfl (f.mono k.le)) (lv (r_m rfl) (nq ?_))))
  obtain ⟨X, Y, l⟩ := ob D
  refine j4 (IE X w K [] i [] []) ?_ ?_
  ·refine i5 ?_
   obtain ⟨aD, aa, H⟩ := ob Y
   have ab := C.sb (sd sz)
   refine qf (fun (I : Nat) (J : Unit) => IV w K [] i [(1, sv q1), (10, V3 A a b), (11, V6 (q0.Fields.length : Int)), (12, V6 ((I : Nat) : Int))] []) aa ⟨i, rfl, ab, kr⟩ ?_ ?_
   ·rintro I J _ ac aE hi44 ad ae ⟨m, rfl, o, q⟩
    refine sr (lv (n8 rfl rfl) (ns (A3 rfl (c7 (by omega)) (i6 (j6 (k8 (i5 (sr ?_))))))))
    obtain ⟨s, af, ag⟩ := ob ad
    refine li underlying51 M9 (f.mono (k.le.trans q)) af fun ah ai aF aj ak => ?_
    obtain ⟨rfl, aG, am⟩ := aj
    have an : D0 _ ah ai [sv s.Name, sv s.Text] := ak
    refine lv (D4 M9 rfl o an rfl) (al M9 o fun ao aH ap => ?_)
    have aq : SH _ _ _ _ _ [q8 ao [sv [], sv []] 158] := ap
    refine lw [sv s.Name, sv s.Text] M9 aq fun aI x => (nr (fl a2l rfl D9 m0 x rfl (mv rfl (lv (H0 rfl rfl) (nq (B5 ag rfl (fun ar G => ?_) (fun ar G => ?_)))))))
    ·refine sr (fl a6f rfl D9 m0 x rfl (av rfl (nq (i9 (d8 (c9 (c9 ?_)))))))
     cases oi G
     cases ae _ rfl
     refine d8 (c9 ?_)
     cases oi H
     refine c9 ?_
     cases oi l
     exact ey results146 ⟨m, rfl, x.s, am⟩
    refine i6 (o0 (qg (lv (y3 rfl rfl (A0 hi44 (b7.max (f.mono k.le)))) (mv rfl (d7 ?_)))))
    cases oi G
    exact qd ⟨_, rfl, m, rfl, x.s, q⟩
   rintro J _ ac au ⟨m, rfl, o, q⟩
   subst au
   refine sr (lv (n8 rfl rfl) (ns (A2 rfl (c6 (by omega)) (q7 (d4 (d4 (j5 ?_)))))))
   cases oi H
   exact H9 ⟨_, m, rfl, rfl, o, q⟩ trivial
  rintro _ aJ ⟨aK, aw, rfl, rfl, ax, aL⟩
  have l := C8 l
  refine qr (lv (r_s rfl) (nq (i9 ?_)))
  cases oi l
  exact ey results146 ⟨aw, rfl, ax, (by decide : ([] : k6).length ≤ maxLen)⟩
 refine i6 (qr (lv (r_s rfl) (nq (i9 ?_))))
 cases oi D
 exact ey results146 ⟨i, rfl, C.s, (by decide : ([] : k6).length ≤ maxLen)⟩

theorem b00 {q0 : List Int} {r : Bool} (hS : SH w K [] w K []) (f : b7 B7 K A a b q0) (hm : a2s F q0 = some r) :
  Calls prog 109 #[V3 A a b] w (R_b w K r) := by
 rw [a2s] at hm
 refine ci func109 rfl ntmps109 (sr (lv (M7 rfl) (P6 (mv rfl (lv (k9 underlying55 rfl f) (lv (r_m rfl) (nq ?_)))))))
 obtain ⟨J, O, m⟩ := ob hm
 refine j4 (IE J w K [] K [(0, V3 A a b)] []) ?_ ?_
 ·refine i5 ?_
  obtain ⟨aB, R, D⟩ := ob O
  refine qf (fun (q : Nat) (G : Unit) => IV w K [] K [(0, V3 A a b), (5, V3 A a b), (6, V6 (q0.length : Int)), (7, V6 ((q : Nat) : Int))] []) R ⟨K, rfl, hS, kr⟩ ?_ ?_
  ·rintro q G _ S aC hi23 T U ⟨s, rfl, i, k⟩
   refine sr (lv (n8 rfl rfl) (ns (A3 rfl (c7 (by omega)) (i6 (j6 (k8 (i5 (sr (mv rfl ?_)))))))))
   obtain ⟨V, W, X⟩ := ob T
   refine li underlying55 D8 (f.mono k) W fun Y aa aD ab ac => ?_
   obtain ⟨rfl, ad⟩ := ab
   have ae : D0 _ Y aa [V6 V] := ac
   refine lv (u0 D8 rfl i (ae 0 _ rfl)) (av rfl (av rfl (ns ?_)))
   obtain ⟨af, ag, ah⟩ := ob X
   refine j4 (IV w K [] s [(0, V3 A a b), (5, V3 A a b), (6, V6 (q0.length : Int)), (7, V6 ((q : Nat) : Int)), (27, .bool af)] []) ?_ ?_
   ·refine i7 (mv rfl ?_)
    obtain ⟨aE, ai, aj⟩ := ob ag
    refine lk a2W (A7 F i.enter0 ad I0 (by decide : d9 999999999) ai) ?_
    rintro aF aG ⟨x, rfl, l⟩
    have o := (i.c0 l).t0
    refine lv (y4 rfl) (mv rfl (bt aj (fun c y => ?_) (fun c y => ?_)))
    ·refine lu c (lu c (lu c (u1 (uu rfl rfl) rfl (u1 (uu rfl rfl) rfl (u1 (uu rfl rfl) rfl (u1 (uu rfl rfl) rfl (u1 (uu rfl rfl) rfl (u1 (uu rfl rfl) rfl (u1 (uu rfl rfl) rfl ?_)))))))))
     refine lu c (lv (K5 rfl c rfl) (d7 ?_))
     cases oi y
     exact qd ⟨x, rfl, o, l.le⟩
    refine lg c (d6 rfl) (lg c (E5 rfl rfl) (lg c (d6 rfl) (bt y (fun d B => ?_) (fun d B => ?_))))
    ·refine lg d (d6 rfl) (lg d (d6 rfl) (lg d (F2 rfl rfl) ?_))
     obtain ⟨ak, al, am⟩ := ob B
     refine H1 (t := B7) (wg rfl rfl d) rfl underlying55 D8 rfl rfl (f.mono (k.trans l.le)) al fun an ao aH ap aq => ?_
     obtain ⟨rfl, aI⟩ := ap
     have ar : D0 _ an ao [V6 ak] := aq
     refine lg d (u0 D8 rfl o (ar 0 _ rfl)) (lg d (d6 rfl) (lg d (a2F rfl rfl) (lg c (j3 rfl d rfl) (lv (j9 rfl c rfl) (d7 ?_)))))
     cases oi am
     exact qd ⟨x, rfl, o, l.le⟩
    iterate 7 refine lu d ?_
    refine lg c (F7 rfl d rfl) (lv (j9 rfl c rfl) (d7 ?_))
    cases oi B
    exact qd ⟨x, rfl, o, l.le⟩
   rintro _ aJ ⟨H, rfl, I, au⟩
   refine j6 (B5 ah rfl (fun aw C => ?_) (fun aw C => ?_))
   ·refine sr (lv (M7 rfl) (nq (i9 (d8 (c9 (c9 ?_))))))
    cases oi C
    cases U _ rfl
    refine d8 (c9 ?_)
    cases oi D
    refine c9 ?_
    cases oi m
    exact ey results109 ⟨H, rfl, I⟩
   refine i6 (o0 (qg (lv (y3 rfl rfl (A0 hi23 (b7.max f))) (mv rfl (d7 ?_)))))
   cases oi C
   exact qd ⟨_, rfl, H, rfl, I, (k.trans au)⟩
  rintro G _ S ax ⟨s, rfl, i, k⟩
  subst ax
  refine sr (lv (n8 rfl rfl) (ns (A2 rfl (c6 (by omega)) (q7 (d4 (d4 (j5 ?_)))))))
  cases oi D
  exact qd ⟨_, s, rfl, rfl, i, k⟩
 rintro _ aK ⟨s8, K9, rfl, rfl, az, aA⟩
 have m := C8 m
 refine qr (mv rfl (lv (k9 underlying55 rfl (f.mono aA)) (lv (R9 rfl rfl) (av rfl (nq (i9 ?_))))))
 cases oi m
 exact ey results109 ⟨K9, rfl, az⟩

theorem a8b {q0 : List (List Int)} {r : Bool} (hS : SH w K [] w K []) (d : b7 (O4 B7) K A a b q0) (hm : a1L F q0 = some r) :
  Calls prog 258 #[V3 A a b] w (R_b w K r) := by
 rw [a1L] at hm
 refine ci func258 rfl ntmps258 (sr (lv (M7 rfl) (P6 (mv rfl (lv (k9 (t := (O4 B7)) underlying211 rfl d) (lv (r_m rfl) (nq ?_)))))))
 obtain ⟨B, C, f⟩ := ob hm
 refine j4 (IE B w K [] K [(0, V3 A a b)] []) ?_ ?_
 ·refine i5 ?_
  obtain ⟨ai, D, l⟩ := ob C
  refine qf (fun (m : Nat) (o : Unit) => IV w K [] K [(0, V3 A a b), (5, V3 A a b), (6, V6 (q0.length : Int)), (7, V6 ((m : Nat) : Int))] []) D ⟨K, rfl, hS, kr⟩ ?_ ?_
  ·rintro m o _ G aj hi23 H I ⟨q, rfl, c, i⟩
   refine sr (lv (n8 rfl rfl) (ns (A3 rfl (c7 (by omega)) (i6 (j6 (k8 (i5 (sr ?_))))))))
   obtain ⟨ak, J, O⟩ := ob H
   refine li underlying211 Y3 (d.mono i) J fun R S al T U => ?_
   obtain ⟨V, W, X, rfl, Y⟩ := T
   have aa : D0 _ R S [V3 V W X] := U
   refine lv (u0 Y3 rfl c (aa 0 _ rfl)) (av rfl (nr (mv rfl ?_)))
   obtain ⟨am, ab, ac⟩ := ob O
   refine lk b8G (b00 F c.enter0 Y ab) ?_
   rintro an ao ⟨s, rfl, x⟩
   have y := (c.c0 x).t0
   refine lv (y4 rfl) (nq (B5 ac rfl (fun ad k => ?_) (fun ad k => ?_)))
   ·refine sr (lv (M7 rfl) (nq (i9 (d8 (c9 (c9 ?_))))))
    cases oi k
    cases I _ rfl
    refine d8 (c9 ?_)
    cases oi l
    refine c9 ?_
    cases oi f
    exact ey results258 ⟨s, rfl, y⟩
   refine i6 (o0 (qg (lv (y3 rfl rfl (A0 hi23 (b7.max d))) (mv rfl (d7 ?_)))))
   cases oi k
   exact qd ⟨_, rfl, s, rfl, y, (i.trans x.le)⟩
  rintro o _ G ae ⟨q, rfl, c, i⟩
  subst ae
  refine sr (lv (n8 rfl rfl) (ns (A2 rfl (c6 (by omega)) (q7 (d4 (d4 (j5 ?_)))))))
  cases oi l
  exact qd ⟨_, q, rfl, rfl, c, i⟩
 rintro _ ap ⟨s8, K9, rfl, rfl, ag, ah⟩
 have f := C8 f
 refine qr (mv rfl (lv (k9 (t := (O4 B7)) underlying211 rfl (d.mono ah)) (lv (R9 rfl rfl) (av rfl (nq (i9 ?_))))))
 cases oi f
 exact ey results258 ⟨K9, rfl, ag⟩

theorem a64 {q0 : List (List Int)} {r : Bool} (hS : SH w K [] w K []) (f : b7 (O4 B7) K A a b q0) (hm : a1o F q0 = some r) :
  Calls prog 227 #[V3 A a b] w (R_b w K r) := by
 rw [a1o] at hm
 refine ci func227 rfl ntmps227 (sr (lv (M7 rfl) (nr (mv rfl (lv (k9 (t := (O4 B7)) underlying211 rfl f) (lv (E5 rfl rfl) (mv rfl (bt hm (fun c d => ?_) (fun c d => ?_)))))))))
 ·refine lg c (d6 rfl) ?_
  obtain ⟨q, i, k⟩ := ob d
  refine x9 (wg rfl rfl c) rfl (x8 (vs := [V3 A a b]) b9y rfl) (a8b F hS.enter0 f i) ?_
  rintro s x ⟨l, rfl, m⟩
  refine ⟨_, rfl, ?_⟩
  have o := (hS.c0 m).t0
  refine lv (j3 rfl c rfl) (av rfl (nq (i9 ?_)))
  cases oi k
  exact ey results227 ⟨l, rfl, o⟩
 refine lu c (lu c (lv (F7 rfl c rfl) (av rfl (nq (i9 ?_)))))
 cases oi d
 exact ey results227 ⟨K, rfl, hS⟩

theorem a71 {q0 : k6} {q1 : k6} {r : Int} (hS : SH w K [] w K []) (aC : q0.length ≤ maxLen) (aD : q1.length ≤ maxLen) (hm : U4 F q0 q1 = some r) :
  Calls prog 132 #[sv q0, sv q1] w (R_i w K r) := by
 rw [U4] at hm
 refine ci func132 rfl ntmps132 (sr (lv (L3 rfl) (ns (k8 ?_))))
 obtain ⟨o3, h4, h5⟩ := ob hm
 refine j4 (IV w K [] K [(0, sv q0), (1, sv q1), (18, .bool o3)] []) ?_ ?_
 ·refine i7 (mv rfl ?_)
  obtain ⟨ct, aH, aI⟩ := ob h4
  refine lk a6d (E9 F hS.enter0 aC aH) ?_
  rintro cu cv ⟨aJ, rfl, O⟩
  have R := (hS.c0 O).t0
  refine lv (y4 rfl) (mv rfl (bt aI (fun o S => ?_) (fun o S => ?_)))
  ·refine lu o (lu o (lu o (lv (K5 rfl o rfl) (d7 ?_))))
   cases oi S
   exact qd ⟨aJ, rfl, R, O.le⟩
  refine lg o (d6 rfl) ?_
  obtain ⟨cw, aK, aL⟩ := ob S
  refine x9 (wg rfl rfl o) rfl (x8 (vs := [sv q1]) a6d rfl) (E9 F R.enter0 aD aK) ?_
  rintro cx cy ⟨aM, rfl, ag⟩
  refine ⟨_, rfl, ?_⟩
  have aN := (R.c0 ag).t0
  refine lg o (y4 rfl) (lv (j9 rfl o rfl) (d7 ?_))
  cases oi aL
  exact qd ⟨aM, rfl, aN, (O.le.trans ag.le)⟩
 rintro _ w8 ⟨I, rfl, ah, cA⟩
 refine j6 (B5 h5 rfl (fun aO T => ?_) (fun aO T => ?_))
 ·refine sr (lv (r9 (v := V6 (-1)) rfl) (nq (rr ?_)))
  cases oi T
  exact ey results132 ⟨I, rfl, ah, (by decide : d9 (-1))⟩
 refine i6 (qr (mv rfl (lv (F1 underlying9 rfl) (lv (s6 rfl rfl) ?_))))
 obtain ⟨ai, aP, aQ⟩ := ob T
 refine b30 (t := B7) wn rfl underlying55 D8 rfl rfl rfl aP ⟨rfl, I0⟩ ah fun b cs34 cB hmx38 hrow36 aR => ?_
 obtain ⟨m39, hm40⟩ : ∃ m, m = ai.length := ⟨_, rfl⟩
 rw [← hm40] at hmx38
 rw [← hm40]
 refine av rfl (P6 (mv rfl (lv (a3V underlying55 rfl hm40) (lv (r_m rfl) (nq ?_)))))
 obtain ⟨aj, aS, aT⟩ := ob aQ
 refine j4 (fun E' w' => ∃ cs48 s, E' = [(0, sv q0), (1, sv q1), (5, V3 (some ⟨b, 0, none⟩) m39 m39)] ∧ SH w K [] w' s [q8 b cs48 3] ∧ H6 I s ∧ A4 true B7 s cs48 aj ∧ m39 = aj.length) ?_ ?_
 ·refine i5 ?_
  obtain ⟨cC, aU, aV⟩ := ob aS
  refine qF (fun (x : Nat) (J : (List Int)) E' w' => ∃ cs60 y, E' = [(0, sv q0), (1, sv q1), (5, V3 (some ⟨b, 0, none⟩) m39 m39), (24, V6 (ai.length : Int)), (25, V6 ((x : Nat) : Int))] ∧ SH w K [] w' y [q8 b cs60 3] ∧ H6 I y ∧ A4 true B7 y cs60 J ∧ m39 = J.length) aU ⟨cs34, I, rfl, aR, kr, hrow36, hm40⟩ ?_ ?_
  ·rintro x J _ aW cD hi64 aX ⟨cs60, y, rfl, U, V, hrow61, hm62⟩
   refine sr (lv (n8 rfl rfl) (ns (A3 rfl (c7 (by omega)) (i6 (j6 (k8 (i5 (sr (mv rfl (av rfl (nq (i7 ?_))))))))))))
   refine mv rfl (mv rfl (mv rfl ?_))
   obtain ⟨aY, W, aZ⟩ := ob aX
   obtain ⟨cE, ba, bb⟩ := A4.at hrow61 W
   obtain ⟨rfl, cF⟩ := ba
   have cG : ∀ (j : Nat) (d : Value), [V6 aY][j]? = some d → cs60[((x : Nat) : Int).toNat * B7.size + j]? = some d := bb
   refine lv (G2 (t := B7) underlying55 D8 rfl rfl hm62 W) (a1G (t := B7) (v := V6 ((x : Nat) : Int)) (e := ((x : Nat) : Int)) wn D8 rfl rfl ⟨rfl, (b05 hi64 (b3N hm40 hmx38))⟩ U hrow61 W fun cs75 cH hrow77 bc => ?_)
   have hm79 := hm62.trans (List.length_set (i := ((x : Nat) : Int).toNat) (a := ((x : Nat) : Int))).symm
   refine nb (qg (lv (y3 rfl rfl (A0 hi64 (b3N hm40 hmx38))) (mv rfl (d7 ?_))))
   cases oi aZ
   exact qd ⟨cs75, y, rfl, bc, V, hrow77, hm79⟩
  rintro J _ aW bd ⟨cs60, y, rfl, U, V, hrow61, hm62⟩
  subst bd
  refine sr (lv (n8 rfl rfl) (ns (A2 rfl (c6 (by omega)) (q7 (d4 (d4 (j5 ?_)))))))
  cases oi aV
  exact qd ⟨cs60, y, rfl, U, V, hrow61, hm62⟩
 rintro _ cI ⟨cs48, s, rfl, be, cJ, hrow49, hm50⟩
 refine qs (sr (lv (r9 (v := V6 1) rfl) (nq ?_)))
 obtain ⟨ak, bf, bg⟩ := ob aT
 refine j4 (fun E' w' => ∃ cs88 D, E' = [(1, sv q1), (5, V3 (some ⟨b, 0, none⟩) m39 m39)] ∧ SH w K [] w' D [q8 b cs88 3] ∧ H6 s D ∧ A4 true B7 D cs88 ak ∧ m39 = ak.length) ?_ ?_
 ·refine i5 ?_
  obtain ⟨cK, bh, bi⟩ := ob bf
  refine qw (fun (l : Int × (List Int)) E' w' => ∃ cs100 q, E' = [(0, sv q0), (1, sv q1), (5, V3 (some ⟨b, 0, none⟩) m39 m39), (7, V6 l.1)] ∧ SH w K [] w' q [q8 b cs100 3] ∧ H6 s q ∧ d9 l.1 ∧ A4 true B7 q cs100 l.2 ∧ m39 = l.2.length) bh ⟨cs48, s, rfl, be, kr, (by decide : d9 1), hrow49, hm50⟩ ?_
  rintro l _ cL cM bj bk ⟨cs100, q, rfl, X, al, bl, hrow101, hm102⟩
  refine k8 (sr (mv rfl (mv rfl (lv (F1 underlying9 rfl) (lv (R9 rfl rfl) (nq (B5 bj rfl (fun bm Y => ?_) (fun bm Y => ?_))))))))
  ·refine i6 (qs (i5 (sr (mv rfl ?_))))
   obtain ⟨bn, am, bo⟩ := ob Y
   obtain ⟨cN, bp, bq⟩ := A4.at hrow101 am
   obtain ⟨rfl, br⟩ := bp
   have bs : ∀ (j : Nat) (d : Value), [V6 bn][j]? = some d → cs100[(0 : Int).toNat * B7.size + j]? = some d := bq
   refine lv (G2 (t := B7) underlying55 D8 rfl rfl hm102 am) (lv (a0d D8 rfl rfl (bs 0 _ rfl) (X.hasObj (.head _))) (av rfl (nr (mv rfl (mv rfl ?_)))))
   obtain ⟨bu, aa, bv⟩ := ob bo
   obtain ⟨cO, bx, bz⟩ := A4.at hrow101 aa
   obtain ⟨rfl, cP⟩ := bx
   have cQ : ∀ (j : Nat) (d : Value), [V6 bu][j]? = some d → cs100[(0 : Int).toNat * B7.size + j]? = some d := bz
   refine lv (G2 (t := B7) underlying55 D8 rfl rfl hm102 aa) (a1G (t := B7) (v := V6 l.1) (e := l.1) wn D8 rfl rfl ⟨rfl, bl⟩ X hrow101 aa fun cs124 cR hrow126 bA => ?_)
   have hm128 := hm102.trans (List.length_set (i := (0 : Int).toNat) (a := l.1)).symm
   refine nr (lv (r9 (v := V6 1) rfl) (nq ?_))
   obtain ⟨an, bB, bC⟩ := ob bv
   refine j4 (fun E' w' => ∃ cs136 G, E' = [(0, sv q0), (1, sv q1), (5, V3 (some ⟨b, 0, none⟩) m39 m39), (7, V6 l.1)] ∧ SH w K [] w' G [q8 b cs136 3] ∧ H6 q G ∧ A4 true B7 G cs136 an ∧ m39 = an.length) ?_ ?_
   ·refine i5 ?_
    obtain ⟨cS, bD, bE⟩ := ob bB
    refine qw (fun (f : Int × Int × (List Int)) E' w' => ∃ cs149 H, E' = [(0, sv q0), (1, sv q1), (5, V3 (some ⟨b, 0, none⟩) m39 m39), (7, V6 l.1), (8, V6 f.1), (9, V6 f.2.1)] ∧ SH w K [] w' H [q8 b cs149 3] ∧ H6 q H ∧ d9 f.1 ∧ d9 f.2.1 ∧ A4 true B7 H cs149 f.2.2 ∧ m39 = f.2.2.length) bD ⟨cs124, q, rfl, bA, kr, br, (by decide : d9 1), hrow126, hm128⟩ ?_
    rintro f _ cT cU bF bG ⟨cs149, H, rfl, ao, ap, bH, cV, hrow150, hm151⟩
    refine k8 (sr (mv rfl (mv rfl (lv (F1 underlying9 rfl) (lv (R9 rfl rfl) (nq (B5 bF rfl (fun bI ab => ?_) (fun bI ab => ?_))))))))
    ·refine i6 (qs (i5 (sr (mv rfl (av rfl (ns (k8 (C2 mixed (by kernel_rfl) ao (km rfl ?_)))))))))
     refine km rfl (kv (F2 rfl rfl) ?_)
     obtain ⟨cW, bJ, bK⟩ := ob ab
     refine kv (G8 underlying9 rfl rfl bJ) (km rfl (km rfl (kv (F2 rfl rfl) ?_)))
     obtain ⟨cX, bL, bM⟩ := ob bK
     refine kv (G8 underlying9 rfl rfl bL) (kv (a44 rfl rfl) (z7 ?_))
     rintro cY ⟨ac, aq, B⟩
     refine j6 ?_
     obtain ⟨c, bN, bO⟩ := ob bM
     refine j4 (IW w K [] ac [(0, sv q0), (1, sv q1), (5, V3 (some ⟨b, 0, none⟩) m39 m39), (7, V6 l.1), (9, V6 f.2.1), (10, V6 c)] [q8 b cs149 3] (d9 c)) ?_ ?_
     ·refine B5 bN rfl (fun bP ad => ?_) (fun bP ad => ?_)
      ·refine i7 (mv rfl (lv (s6 rfl rfl) (av rfl (d7 ?_))))
       cases oi ad
       exact qd ⟨ac, rfl, aq, kr, (l9 _)⟩
      refine i6 ?_
      cases oi ad
      exact qd ⟨ac, rfl, aq, kr, bH⟩
     rintro _ cZ ⟨ar, rfl, au, C, bQ⟩
     refine qr (mv rfl (mv rfl ?_))
     obtain ⟨bR, aw, bS⟩ := ob bO
     obtain ⟨da, bT, bU⟩ := A4.at (A4.mono (B.trans C) hrow150) aw
     obtain ⟨rfl, bV⟩ := bT
     have bW : ∀ (j : Nat) (d : Value), [V6 bR][j]? = some d → cs149[f.2.1.toNat * B7.size + j]? = some d := bU
     refine lv (G2 (t := B7) underlying55 D8 rfl rfl hm151 aw) (lv (a0d D8 rfl rfl (bW 0 _ rfl) (au.hasObj (.head _))) (av rfl (nq ?_)))
     have ae := au.drew
     refine wh1 (fun w' => E7 ar w') (fun w' => y7 b cs149 w') 16 [(6, 7), (6, 15), (6, 16), (7, 14), (7, 15), (7, 16), (12, 13), (12, 15), (12, 16), (13, 14), (13, 15), (13, 16), (14, 15), (14, 16), (15, 16)] mixed (ae.hasK kr) (fun _ => ae.hasObj (.head _)) (gt (d6 rfl) (gt (d6 rfl) (gt (d6 rfl) (gt (d6 rfl) (gt (d6 rfl) ?_)))))
     obtain ⟨k, ax, bX⟩ := ob bS
     obtain ⟨db, bY, bZ⟩ := A4.at (A4.mono (B.trans C) hrow150) ax
     obtain ⟨rfl, dc⟩ := bY
     have ca : ∀ (j : Nat) (d : Value), [V6 k][j]? = some d → cs149[f.2.1.toNat * B7.size + j]? = some d := bZ
     refine gt (G2 (t := B7) underlying55 D8 rfl rfl hm151 ax) (gf (fun _ h => (a0d D8 rfl rfl (ca 0 _ rfl) h)) (gt (s6 rfl rfl) (gt (d6 rfl) (gt (d6 rfl) (gt (F2 rfl rfl) ?_)))))
     obtain ⟨A, ay, cb⟩ := ob bX
     obtain ⟨dd, cc, cd⟩ := A4.at (A4.mono (B.trans C) hrow150) ay
     obtain ⟨rfl, de⟩ := cc
     have ce : ∀ (j : Nat) (d : Value), [V6 A][j]? = some d → cs149[(u6 (f.2.1 - (1 : Int))).toNat * B7.size + j]? = some d := cd
     refine gt (G2 (t := B7) underlying55 D8 rfl rfl hm151 ay) (gf (fun _ h => (a0d D8 rfl rfl (ce 0 _ rfl) h)) (gt (s6 rfl rfl) (gt (b62 rfl rfl rfl) ?_)))
     obtain ⟨cf, af, cg⟩ := ob cb
     obtain ⟨df, ch, cj⟩ := A4.at (A4.mono (B.trans C) hrow150) af
     obtain ⟨rfl, dg⟩ := ch
     have dh : ∀ (j : Nat) (d : Value), [V6 cf][j]? = some d → cs149[f.2.1.toNat * B7.size + j]? = some d := cj
     refine gt (G2 (t := B7) underlying55 D8 rfl rfl hm151 af) (gn (a1G (t := B7) (v := V6 (if (u6 (A + (1 : Int))) < (if (u6 (k + (1 : Int))) < c then (u6 (k + (1 : Int))) else c) then (u6 (A + (1 : Int))) else (if (u6 (k + (1 : Int))) < c then (u6 (k + (1 : Int))) else c))) (e := (if (u6 (A + (1 : Int))) < (if (u6 (k + (1 : Int))) < c then (u6 (k + (1 : Int))) else c) then (u6 (A + (1 : Int))) else (if (u6 (k + (1 : Int))) < c then (u6 (k + (1 : Int))) else c))) wn D8 rfl rfl ⟨rfl, (b3L (b3L bQ (l9 _)) (l9 _))⟩ ae (A4.mono (B.trans C) hrow150) af fun cs211 di hrow213 az => ?_))
     have hm215 := hm151.trans (List.length_set (i := f.2.1.toNat) (a := (if (u6 (A + (1 : Int))) < (if (u6 (k + (1 : Int))) < c then (u6 (k + (1 : Int))) else c) then (u6 (A + (1 : Int))) else (if (u6 (k + (1 : Int))) < c then (u6 (k + (1 : Int))) else c)))).symm
     refine d7 (qh (az.hasK kr) (fun h => nomatch h) (gd' (o0 (j6 (i7 (mv rfl (lv (s6 rfl rfl) (av rfl (d7 ?_)))))))))
     cases oi cg
     exact qd ⟨_, rfl, cs211, ar, rfl, az, ((ap.trans B).trans C), bV, (l9 _), hrow213, hm215⟩
    refine q7 (d4 (d4 ?_))
    cases oi ab
    cases bG _ rfl
    refine j5 ?_
    cases oi bE
    exact qd ⟨cs149, H, rfl, ao, ap, hrow150, hm151⟩
   rintro _ dj ⟨cs136, G, rfl, ck, cl, hrow137, hm138⟩
   refine o0 (j6 (i7 (mv rfl (lv (s6 rfl rfl) (av rfl (d7 ?_))))))
   cases oi bC
   exact qd ⟨_, rfl, cs136, G, rfl, ck, (al.trans cl), (l9 _), hrow137, hm138⟩
  refine q7 (d4 (d4 ?_))
  cases oi Y
  cases bk _ rfl
  refine j5 ?_
  cases oi bi
  exact qd ⟨cs100, q, rfl, X, al, hrow101, hm102⟩
 rintro _ dk ⟨cs88, D, rfl, aA, dl, hrow89, hm90⟩
 refine qr (mv rfl (mv rfl (lv (F1 underlying9 rfl) ?_)))
 obtain ⟨cm, aB, cn⟩ := ob bg
 obtain ⟨dm, cp, cq⟩ := A4.at hrow89 aB
 obtain ⟨rfl, cr⟩ := cp
 have cs : ∀ (j : Nat) (d : Value), [V6 cm][j]? = some d → cs88[(q1.length : Int).toNat * B7.size + j]? = some d := cq
 refine lv (G2 (t := B7) underlying55 D8 rfl rfl hm90 aB) (lv (a0d D8 rfl rfl (cs 0 _ rfl) (aA.hasObj (.head _))) (av rfl (nq (i9 ?_))))
 cases oi cn
 exact ey results132 ⟨D, rfl, aA.s, cr⟩

theorem a8a (F : Nat) : ∀ {w : World} {K : C5} {q0 : k6} {q1 : k6} {r : Bool} (hS : SH w K [] w K []) (i : q0.length ≤ maxLen) (k : q1.length ≤ maxLen) (hm : I7 F q0 q1 = some r),
  Calls prog 180 #[sv q0, sv q1] w (R_b w K r) := by
 induction F with
 | zero => intros; rename_i hm; rw [I7] at hm; cases hm
 | succ F ih =>
  intro w K q0 q1 r hS i k hm
  rw [I7] at hm
  refine ci func180 rfl ntmps180 (sr (lv (M7 rfl) (ns (i5 (sr (mv rfl (lv (H0 (r := ([] : k6)) rfl rfl) (av rfl (nq ?_)))))))))
  refine S3 rfl (fun o => ?_) (fun o => ?_)
  ·have q := a1R o hm
   refine sr (mv rfl (lv (H0 (r := ([] : k6)) rfl rfl) (av rfl (nq (i9 (d8 (c9 ?_)))))))
   cases oi q
   exact ey results180 ⟨K, rfl, hS⟩
  have q := a1Q o hm
  refine sr (mv rfl ?_)
  obtain ⟨x5, T, U⟩ := ob q
  refine lv (G8 underlying9 rfl rfl T) (lv (a5U (b := (42 : UInt8)) rfl rfl) (av rfl (nq (B5 U rfl (fun V s => ?_) (fun V s => ?_)))))
  ·refine k8 ?_
   obtain ⟨W, X, Y⟩ := ob s
   refine j4 (IV w K [] K [(4, .bool W)] []) ?_ ?_
   ·refine i7 (mv rfl ?_)
    obtain ⟨aM, D, aa⟩ := ob X
    refine lv (T5 underlying9 rfl rfl D) (mv rfl ?_)
    obtain ⟨aN, ab, ac⟩ := ob aa
    refine lk b1u (ih hS.enter0 (Y0 i D) k ab) ?_
    rintro aO aP ⟨G, rfl, l⟩
    have m := (hS.c0 l).t0
    refine mv rfl (bt ac (fun a x => ?_) (fun a x => ?_))
    ·refine lu a (lu a (lu a (u1 (uu rfl rfl) rfl (u1 (uu rfl rfl) rfl (u1 (uu rfl rfl) rfl (u1 (uu rfl rfl) rfl (lu a (lv (K5 rfl a rfl) (av rfl ?_)))))))))
     refine d7 ?_
     cases oi x
     exact qd ⟨G, rfl, m, l.le⟩
    refine lg a (d6 rfl) (lg a (a0o (r := ([] : k6)) rfl rfl) (lg a (d6 rfl) (bt x (fun c y => ?_) (fun c y => ?_))))
    ·refine lg c (d6 rfl) (lg c (d6 rfl) ?_)
     obtain ⟨ad, H, ae⟩ := ob y
     refine lg c (T5 underlying9 rfl rfl H) ?_
     obtain ⟨aQ, af, ag⟩ := ob ae
     refine x9 (wg rfl rfl c) rfl (x8 (vs := [sv q0, sv ad]) b1u rfl) (ih m.enter0 i (Y0 k H) af) ?_
     rintro aR aS ⟨ah, rfl, I⟩
     refine ⟨_, rfl, ?_⟩
     have ai := (m.c0 I).t0
     refine lg a (j3 rfl c rfl) (lv (j9 rfl a rfl) (av rfl (d7 ?_)))
     cases oi ag
     exact qd ⟨ah, rfl, ai, (l.le.trans I.le)⟩
    refine lu c (lu c (lu c (lu c (lg a (F7 rfl c rfl) (lv (j9 rfl a rfl) (av rfl (d7 ?_)))))))
    cases oi y
    exact qd ⟨G, rfl, m, l.le⟩
   rintro _ aT ⟨aj, rfl, ak, aU⟩
   refine j6 (i9 (d8 (c9 ?_)))
   cases oi Y
   exact ey results180 ⟨aj, rfl, ak⟩
  refine sr (mv rfl (lv (H0 (r := ([] : k6)) rfl rfl) (av rfl (nq (B5 s rfl (fun al A => ?_) (fun al A => ?_))))))
  ·refine sr (lv (M7 rfl) (nq (i9 (d8 (c9 ?_)))))
   cases oi A
   exact ey results180 ⟨K, rfl, hS⟩
  refine i6 (o0 (qs (C2 mixed (by kernel_rfl) hS (km rfl ?_))))
  obtain ⟨aV, am, an⟩ := ob A
  refine kv (G8 underlying9 rfl rfl am) (kv (a5U (b := (63 : UInt8)) rfl rfl) (km rfl (bt an (fun d B => ?_) (fun d B => ?_))))
  ·iterate 5 refine kn d ?_
   refine kv (K5 rfl d rfl) (km rfl (kg rfl (d6 rfl) ?_))
   obtain ⟨aW, J, ao⟩ := ob B
   refine kg rfl (T5 underlying9 rfl rfl J) (kg rfl (d6 rfl) ?_)
   obtain ⟨aX, O, ap⟩ := ob ao
   refine kg rfl (T5 underlying9 rfl rfl O) ?_
   obtain ⟨aY, aq, ar⟩ := ob ap
   refine kcg rfl b1u (fun _ _ au aZ => ih au.enter0 (Y0 i J) (Y0 k O) aq) (kv (j3 rfl rfl rfl) (kv (r9 rfl) (z7 ?_)))
   rintro u6 ⟨aw, ax, ba⟩
   refine j6 (i9 ?_)
   cases oi ar
   exact ey results180 ⟨aw, rfl, ax⟩
  refine kg d (d6 rfl) ?_
  obtain ⟨bb, ay, az⟩ := ob B
  refine kg d (G8 underlying9 rfl rfl ay) (kg d (d6 rfl) ?_)
  obtain ⟨bc, aA, aB⟩ := ob az
  refine kg d (G8 underlying9 rfl rfl aA) (kg d (a5U rfl rfl) (kv (j9 rfl d rfl) (km rfl (bt aB (fun f C => ?_) (fun f C => ?_)))))
  ·refine kg f (d6 rfl) ?_
   obtain ⟨bd, R, aC⟩ := ob C
   refine kg f (T5 underlying9 rfl rfl R) (kg f (d6 rfl) ?_)
   obtain ⟨be, S, aD⟩ := ob aC
   refine kg f (T5 underlying9 rfl rfl S) ?_
   obtain ⟨bf, aE, aF⟩ := ob aD
   refine kcg f b1u (fun _ _ aG bg => ih aG.enter0 (Y0 i R) (Y0 k S) aE) (kv (j3 rfl f rfl) (kv (r9 rfl) (z7 ?_)))
   rintro bh ⟨aH, aI, bi⟩
   refine j6 (i9 ?_)
   cases oi aF
   exact ey results180 ⟨aH, rfl, aI⟩
  iterate 5 refine kn f ?_
  refine kv (F7 rfl f rfl) (kv (r9 rfl) (z7 ?_))
  rintro bj ⟨aJ, aK, bk⟩
  refine j6 (i9 ?_)
  cases oi C
  exact ey results180 ⟨aJ, rfl, aK⟩

theorem a7Z {q0 : k6} {q1 : k6} {r : Bool} (hS : SH w K [] w K []) (k : q0.length ≤ maxLen) (l : q1.length ≤ maxLen) (hm : a0r F q0 q1 = some r) :
  Calls prog 133 #[sv q0, sv q1] w (R_b w K r) := by
 rw [a0r] at hm
 refine ci func133 rfl ntmps133 (sr (lv (M7 rfl) (nr (mv rfl ?_))))
 obtain ⟨J, m, o⟩ := ob hm
 refine lk b7s (a4R F hS.enter0 k m) ?_
 rintro O R ⟨q, rfl, s⟩
 have c := (hS.c0 s).t0
 refine mv rfl (bt o (fun b d => ?_) (fun b d => ?_))
 ·refine lg b (d6 rfl) ?_
  obtain ⟨S, x, y⟩ := ob d
  refine x9 (wg rfl rfl b) rfl (x8 (vs := [sv q1]) a6d rfl) (E9 F c.enter0 l x) ?_
  rintro T U ⟨A, rfl, B⟩
  refine ⟨_, rfl, ?_⟩
  have f := (c.c0 B).t0
  refine lv (j3 rfl b rfl) (mv rfl (bt y (fun a i => ?_) (fun a i => ?_)))
  ·refine lg a (d6 rfl) (lg a (d6 rfl) ?_)
   obtain ⟨V, C, D⟩ := ob i
   refine x9 (wg rfl rfl a) rfl (x8 (vs := [sv q0, sv q1]) b1u rfl) (a8a F f.enter0 k l C) ?_
   rintro W X ⟨G, rfl, H⟩
   refine ⟨_, rfl, ?_⟩
   have I := (f.c0 H).t0
   refine lv (j3 rfl a rfl) (av rfl (nq (i9 ?_)))
   cases oi D
   exact ey results133 ⟨G, rfl, I⟩
  refine lu a (lu a (lu a (lv (F7 rfl a rfl) (av rfl (nq (i9 ?_))))))
  cases oi i
  exact ey results133 ⟨A, rfl, f⟩
 refine lu b (lu b (lv (F7 rfl b rfl) (mv rfl (lu rfl (lu rfl (lu rfl (lv (F7 rfl rfl rfl) (av rfl (nq ?_)))))))))
 refine i9 ?_
 cases oi d
 exact ey results133 ⟨q, rfl, c⟩

theorem a4P {q0 : s7} {q1 : k6} {r : Int} (hS : SH w K [] w K []) (O : d9 q0.Id) (R : b7 F3 K A a b q0.Fields) (f : b7 G5 K B c d q0.Nums) (ay : q1.length ≤ maxLen) (hm : a07 F q0 q1 = some r) :
  Calls prog 135 #[.agg #[V6 q0.Id, V3 A a b, V3 B c d], sv q1] w (R_i w K r) := by
 rw [a07] at hm
 refine ci func135 rfl ntmps135 (sr (bx rfl hS fun S az T => ?_))
 have y : SH _ _ _ _ _ [q8 S [V6 q0.Id, V3 A a b, V3 B c d] 54] := T
 refine lv (L3 rfl) (P6 (lv (l3 (ds := [V6 q0.Id, V3 A a b, V3 B c d]) C0 rfl m0 y rfl rfl) ?_))
 obtain ⟨aA, U, V⟩ := ob hm
 refine lk b5l (a3x F y.enter0 O R f U) ?_
 rintro aB aC ⟨i, rfl, k⟩
 have C := (y.c0 k).t1
 refine nq (B5 V rfl (fun W D => ?_) (fun W D => ?_))
 ·refine sr (fl X8 rfl a4e m0 C rfl (lv (k9 underlying52 rfl (f.mono k.le)) (lv (r_m rfl) (nq ?_))))
  obtain ⟨X, Y, l⟩ := ob D
  refine j4 (IE X w K [] i [] []) ?_ ?_
  ·refine i5 ?_
   obtain ⟨aD, aa, H⟩ := ob Y
   have ab := C.sb (sd sz)
   refine qf (fun (I : Nat) (J : Unit) => IV w K [] i [(1, sv q1), (10, V3 B c d), (11, V6 (q0.Nums.length : Int)), (12, V6 ((I : Nat) : Int))] []) aa ⟨i, rfl, ab, kr⟩ ?_ ?_
   ·rintro I J _ ac aE hi44 ad ae ⟨m, rfl, o, q⟩
    refine sr (lv (n8 rfl rfl) (ns (A3 rfl (c7 (by omega)) (i6 (j6 (k8 (i5 (sr ?_))))))))
    obtain ⟨s, af, ag⟩ := ob ad
    refine li underlying52 P9 (f.mono (k.le.trans q)) af fun ah ai aF aj ak => ?_
    obtain ⟨rfl, aG, am⟩ := aj
    have an : D0 _ ah ai [sv s.Name, V6 s.Num] := ak
    refine lv (D4 P9 rfl o an rfl) (al P9 o fun ao aH ap => ?_)
    have aq : SH _ _ _ _ _ [q8 ao [sv [], V6 0] 197] := ap
    refine lw [sv s.Name, V6 s.Num] P9 aq fun aI x => (nr (fl a3l rfl D9 m0 x rfl (mv rfl (lv (H0 rfl rfl) (nq (B5 ag rfl (fun ar G => ?_) (fun ar G => ?_)))))))
    ·refine sr (fl a8y rfl D8 m0 x rfl (av rfl (nq (i9 (d8 (c9 (c9 ?_)))))))
     cases oi G
     cases ae _ rfl
     refine d8 (c9 ?_)
     cases oi H
     refine c9 ?_
     cases oi l
     exact ey results135 ⟨m, rfl, x.s, am⟩
    refine i6 (o0 (qg (lv (y3 rfl rfl (A0 hi44 (b7.max (f.mono k.le)))) (mv rfl (d7 ?_)))))
    cases oi G
    exact qd ⟨_, rfl, m, rfl, x.s, q⟩
   rintro J _ ac au ⟨m, rfl, o, q⟩
   subst au
   refine sr (lv (n8 rfl rfl) (ns (A2 rfl (c6 (by omega)) (q7 (d4 (d4 (j5 ?_)))))))
   cases oi H
   exact H9 ⟨_, m, rfl, rfl, o, q⟩ trivial
  rintro _ aJ ⟨aK, aw, rfl, rfl, ax, aL⟩
  have l := C8 l
  refine qr (lv (r9 (v := V6 (-1)) rfl) (nq (i9 ?_)))
  cases oi l
  exact ey results135 ⟨aw, rfl, ax, (by decide : d9 (-1))⟩
 refine i6 (qr (lv (r9 (v := V6 (-1)) rfl) (nq (i9 ?_))))
 cases oi D
 exact ey results135 ⟨i, rfl, C.s, (by decide : d9 (-1))⟩
end Go.Proofs.YtmkhlppjphodfaaGreatDoor
