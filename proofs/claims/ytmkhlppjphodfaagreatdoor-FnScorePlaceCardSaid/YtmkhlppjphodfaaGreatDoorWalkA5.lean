/-
 Walks of the functions. Printed by gen.py.
-/
import Derived.Test.YtmkhlppjphodfaaGreatDoorWalkA1
import Derived.Test.YtmkhlppjphodfaaGreatDoorWalkA2
import Derived.Test.YtmkhlppjphodfaaGreatDoorWalkA3
set_option linter.unusedVariables false
set_option linter.unusedSectionVars false
set_option maxRecDepth 100000
namespace Go.Proofs.YtmkhlppjphodfaaGreatDoor
set_option maxHeartbeats 4000000
open Go Go.Fk Go.RowKit Tryz
variable (F : Nat) {w : World} {K : C5} {Z : List Nat} {g1 g2 g3 : Nat} {A B C D G H I J O R S T : Option Addr} {a b c d f i k l m n o p q s v x y aa ab ac ad ae af ag : Nat}
variable [dr : Dr]

theorem Z6 {q0 : q9} {q1 : k6} {r : (List y9)} (hS : SH w K [] w K []) (ak : b7 B8 K A a b q0.Stops) (S : b7 I4 K B c d q0.Syns) (am : q1.length ≤ maxLen) (hm : L7 F q0 q1 = some r) :
  Calls prog 139 #[.agg #[V3 A a b, V3 B c d], sv q1] w fun e w' => ∃ a_1 n_2 c_3 K', e = .returned (V3 a_1 n_2 c_3) ∧ SH w K [] w' K' [tail (V3 a_1 n_2 c_3) 117 2] ∧ b7 J7 K' a_1 n_2 c_3 r := by
 rw [L7] at hm
 refine ci func139 rfl ntmps139 (sr (bx rfl hS fun T cn an => ?_))
 have ao : SH _ _ _ _ _ [q8 T [V3 A a b, V3 B c d] 26] := an
 refine lv (r_n rfl) (nr (b0 J7 underlying114 F9 ao fun ap cp cq l aq W => (av rfl (nr (lv (l3 (ds := [V3 A a b, V3 B c d]) E6 rfl m1 W rfl rfl) (mv rfl ?_))))))
 obtain ⟨cr, ar, au⟩ := ob hm
 refine lk b9g (a8i F W.enter0 (ak.mono l) (S.mono l) am ar) ?_
 rintro ct cu ⟨aw, ax, ay, X, rfl, m, az⟩
 have aA := (W.c0 m).t3
 refine av rfl (ns ?_)
 obtain ⟨aB, aC, aD⟩ := ob au
 refine j4 (fun E' w' => ∃ y C D G, E' = [(5, V3 y C D)] ∧ SH w K [] w' G [tail (V3 y C D) 117 2] ∧ H6 X G ∧ b7 J7 G y C D aB) ?_ ?_
 ·refine i5 ?_
  obtain ⟨cv, aE, aF⟩ := ob aC
  have aG := aA.f1.f2.sb (sk (sk (sd sz)))
  refine qw (fun (Y : (List y9) × (List y9)) E' w' => ∃ H I J aa ab ac o, E' = [(2, pt T), (5, V3 H I J), (6, V3 aa ab ac)] ∧ SH w K [] w' o [q8 T [V3 A a b, V3 B c d] 26, tail (V3 H I J) 117 2] ∧ H6 X o ∧ b7 J7 o H I J Y.1 ∧ b7 J7 o aa ab ac Y.2) aE ⟨ap, 0, 0, aw, ax, ay, X, rfl, aG, kr, (aq.mono m.le), az⟩ ?_
  rintro Y _ cw cx aH aI ⟨H, I, J, aa, ab, ac, o, rfl, U, i, ad, q⟩
  refine k8 (sr (mv rfl (lv (k9 underlying114 rfl q) (lv (E5 rfl rfl) (nq (B5 aH rfl (fun aJ ae => ?_) (fun aJ ae => ?_)))))))
  ·refine i6 (j6 (i5 (sr (lv (l3 (ds := [V3 A a b, V3 B c d]) E6 rfl m0 U rfl rfl) (mv rfl ?_)))))
   obtain ⟨cy, aK, aL⟩ := ob ae
   refine lk b9h (a9X F U.enter0 (ak.mono ((l.trans m.le).trans i)) (S.mono ((l.trans m.le).trans i)) q aK) ?_
   rintro cz cA ⟨aM, rfl, f, cB⟩
   have af := (U.c0 f).t2
   refine av rfl (P6 (mv rfl (lv (n8 rfl rfl) (nq (B5 aL rfl (fun aN ag => ?_) (fun aN ag => ?_))))))
   ·refine sr (mv rfl (mv rfl ?_))
    obtain ⟨k, aO, aP⟩ := ob ag
    refine li underlying114 F9 (q.mono f.le) aO fun aQ aR cC aS aT => ?_
    obtain ⟨rfl, aU, aV⟩ := aS
    have aW : D0 _ aQ aR [sv k.Text, V6 k.At] := aT
    refine lv (D4 F9 rfl af aW rfl) (lb J7 (.agg #[sv k.Text, V6 k.At]) [sv k.Text, V6 k.At] k underlying114 F9 ⟨rfl, aU, aV⟩ af fun cD cE cF ah aX aY => ?_)
    obtain ⟨cG, aZ, ba⟩ := ob aP
    refine lp underlying114 F9 (ad.mono (f.le.trans ah)) aX aZ aY.f2 fun bb bc bd cH be al bf bg => (av rfl (nr (mv rfl ?_)))
    obtain ⟨cI, bh, bi⟩ := ob ba
    refine a6M (t := J7) wn rfl underlying114 F9 rfl rfl (q.mono ((f.le.trans ah).trans al)) bh fun bj bk bl bm => (av rfl (nq (q7 (d4 (j5 ?_)))))
    cases oi bi
    exact qd ⟨_, rfl, bb, bc, bd, bj, bk, bl, be, rfl, bg.f2.s, (((i.trans f.le).trans ah).trans al), bf, bm⟩
   refine i6 (qs ?_)
   have ai := af.drew
   refine wh1 (fun w' => E7 aM w' ∧ y7 T [V3 A a b, V3 B c d] w') (fun w' => True) 15 [] mixed ⟨ai.hasK kr, ai.hasObj m0⟩ (fun _ => trivial) (gt (d6 rfl) (gt (b8 a1x rfl) (gh (fun _ h => y2 a5V rfl rfl h.2) (gt (d6 rfl) ?_))))
   obtain ⟨O, bn, bo⟩ := ob ag
   refine gi underlying24 a3Z (b7.mono (((l.trans m.le).trans i).trans f.le) S) bn fun bp bq cJ br bs => ?_
   obtain ⟨bu, bv, bz, rfl, cK, bA⟩ := br
   have bB : D0 _ bp bq [V3 bu bv bz, sv O.To] := bs
   refine gt (b8 a4F rfl) (gh (fun _ h => a0M D9 rfl (bB 1 _ rfl) h.1) (gt (d6 rfl) ?_))
   obtain ⟨s, bC, bD⟩ := ob bo
   refine gi underlying114 F9 (q.mono f.le) bC fun bE bF cL bG bH => ?_
   obtain ⟨rfl, cM, bI⟩ := bG
   have bJ : D0 _ bE bF [sv s.Text, V6 s.At] := bH
   refine gt (b8 a1r rfl) (gh (fun _ h => a0M D8 rfl (bJ 1 _ rfl) h.1) (gt (A5 (cs := #[sv O.To, V6 s.At]) b3U F9 rfl (by kernel_rfl)) (gn (lb J7 (.agg #[sv O.To, V6 s.At]) [sv O.To, V6 s.At] (y9.mk O.To s.At) underlying114 F9 ⟨rfl, bA, bI⟩ ai fun cN cO cP x bK aj => (d7 (qh ⟨aj.hasK x, aj.hasObj m1⟩ (fun _ => trivial) (gn ?_)))))))
   obtain ⟨cQ, bL, bM⟩ := ob bD
   refine lp underlying114 F9 (ad.mono (f.le.trans x)) bK bL aj.f2 fun bN bO bP cR bQ V bR R => (d7 (qh ⟨R.hasK (x.trans V), R.hasObj m2⟩ (fun _ => trivial) (gt (r9 rfl) (gd' (j6 (i7 (mv rfl (fl a1x rfl a5V m2 R rfl (mv rfl ?_)))))))))
   obtain ⟨bS, bT, bU⟩ := ob bM
   refine li underlying24 a3Z (b7.mono (((((l.trans m.le).trans i).trans f.le).trans x).trans V) S) bT fun bV bW cS bX bY => ?_
   obtain ⟨bZ, ca, cb, rfl, cc, cT⟩ := bX
   have cd : D0 _ bV bW [V3 bZ ca cb, sv bS.To] := bY
   refine fa a0K rfl (lv (u0 O5 rfl R (cd 0 _ rfl)) (lv (k9 underlying23 rfl cc) ?_))
   obtain ⟨cU, ce, cf⟩ := ob bU
   refine a6M (t := J7) wn rfl underlying114 F9 rfl rfl (q.mono ((f.le.trans x).trans V)) ce fun cg ch cj ck => (av rfl (nb ?_))
   cases oi cf
   exact qd ⟨_, rfl, bN, bO, bP, cg, ch, cj, bQ, rfl, R.f2.s, (((i.trans f.le).trans x).trans V), bR, ck⟩
  refine q7 (d4 (d4 ?_))
  cases oi ae
  cases aI _ rfl
  refine j5 ?_
  cases oi aF
  exact qd ⟨H, I, J, o, rfl, U.s, i, ad⟩
 rintro _ cV ⟨y, C, D, G, rfl, cl, cW, cm⟩
 refine qr (mv rfl (av rfl (nq (i9 ?_))))
 cases oi aD
 exact ey results139 ⟨y, C, D, G, rfl, cl, cm⟩

theorem a8p {q0 : q9} {q1 : List s7} {q2 : k6} {r : (List k6)} (hS : SH w K [] w K []) (aC : b7 B8 K A a b q0.Stops) (aD : b7 I4 K B c d q0.Syns) (ak : b7 E1 K C f i q1) (aE : q2.length ≤ maxLen) (hm : a0H F q0 q1 q2 = some r) :
  Calls prog 174 #[.agg #[V3 A a b, V3 B c d], V3 C f i, sv q2] w fun e w' => ∃ a_1 n_2 c_3 K', e = .returned (V3 a_1 n_2 c_3) ∧ SH w K [] w' K' [tail (V3 a_1 n_2 c_3) 9 1] ∧ b7 B8 K' a_1 n_2 c_3 r := by
 rw [a0H] at hm
 refine ci func174 rfl ntmps174 (sr (bx rfl hS fun k bS aF => ?_))
 have aG : SH _ _ _ _ _ [q8 k [V3 A a b, V3 B c d] 26] := aF
 refine lv (r_n rfl) (nr (b0 B8 underlying23 D9 aG fun aH bT ae X aI aJ => (av rfl (P6 (lv (L3 rfl) (nq ?_))))))
 obtain ⟨aK, aL, aM⟩ := ob hm
 refine j4 (fun E' w' => ∃ D G H I, E' = [(7, V3 D G H)] ∧ SH w K [] w' I [tail (V3 D G H) 9 1] ∧ H6 ae I ∧ b7 B8 I D G H aK) ?_ ?_
 ·refine i5 ?_
  obtain ⟨bU, aN, aO⟩ := ob aL
  refine qw (fun (m : (List k6) × Int) E' w' => ∃ o q s x, E' = [(1, V3 C f i), (2, sv q2), (3, pt k), (7, V3 o q s), (8, V6 m.2)] ∧ SH w K [] w' x [q8 k [V3 A a b, V3 B c d] 26, tail (V3 o q s) 9 1] ∧ H6 ae x ∧ b7 B8 x o q s m.1 ∧ d9 m.2) aN ⟨aH, 0, 0, ae, rfl, aJ.f1, kr, aI, I0⟩ ?_
  rintro m _ bV bW aP aQ ⟨o, q, s, x, rfl, al, y, am, bX⟩
  refine k8 (sr (mv rfl (mv rfl (lv (k9 underlying35 rfl (ak.mono (X.trans y))) (lv (n8 rfl rfl) (nq (B5 aP rfl (fun aR af => ?_) (fun aR af => ?_))))))))
  ·refine i6 (qs (i5 (k8 ?_)))
   have Y := al.drew
   refine wh1 (fun w' => E7 x w' ∧ y7 k [V3 A a b, V3 B c d] w') (fun w' => True) 9 [] mixed ⟨Y.hasK kr, Y.hasObj m0⟩ (fun _ => trivial) (gh (fun _ h => B2 (ds := [V3 A a b, V3 B c d]) E6 rfl rfl rfl h.2) (gt (d6 rfl) (gt (d6 rfl) ?_)))
   obtain ⟨an, aS, aT⟩ := ob af
   refine gi underlying35 C0 (ak.mono (X.trans y)) aS fun aU aV bY aW aX => ?_
   obtain ⟨ao, ap, aq, ar, au, aw, rfl, aY, aZ, ba⟩ := aW
   have bb : D0 _ aU aV [V6 an.Id, V3 ao ap aq, V3 ar au aw] := aX
   refine gh (fun _ h => a3U (cs := [V6 an.Id, V3 ao ap aq, V3 ar au aw]) C0 rfl bb rfl h.1) (gt (d6 rfl) (gn ?_))
   obtain ⟨bZ, bc, bd⟩ := ob aT
   refine lk b7A (a4n F Y.enter0 aY aZ ba aE bc) ?_
   rintro ca cb ⟨cc, rfl, l, be⟩
   have aa := (Y.c0 l).t2
   refine d7 (qh ⟨aa.hasK l.le, aa.hasObj m0⟩ (fun _ => trivial) (gn ?_))
   obtain ⟨cd, bf, bg⟩ := ob bd
   refine lk b1t (Z6 F aa.enter0 (aC.mono ((X.trans y).trans l.le)) (aD.mono ((X.trans y).trans l.le)) be bf) ?_
   rintro ce cf ⟨bh, bi, bj, ag, rfl, ab, ax⟩
   have ah := (aa.c0 ab).t3
   refine d7 (qh ⟨ah.hasK (l.le.trans ab.le), ah.hasObj m1⟩ (fun _ => trivial) (gt (r9 rfl) (gd' (qr (lv (L3 rfl) (nq ?_))))))
   obtain ⟨bk, bl, bm⟩ := ob bg
   refine j4 (fun E' w' => ∃ J O R S, E' = [(1, V3 C f i), (2, sv q2), (3, pt k), (7, V3 J O R), (8, V6 m.2)] ∧ SH w K [] w' S [q8 k [V3 A a b, V3 B c d] 26, tail (V3 J O R) 9 1] ∧ H6 ag S ∧ b7 B8 S J O R bk) ?_ ?_
   ·refine i5 ?_
    obtain ⟨cg, bn, bo⟩ := ob bl
    have bp := ah.sb (sd (sk (sk sz)))
    refine qw (fun (ac : (List k6) × Int) E' w' => ∃ T U V W, E' = [(1, V3 C f i), (2, sv q2), (3, pt k), (7, V3 T U V), (8, V6 m.2), (9, V3 bh bi bj), (10, V6 ac.2)] ∧ SH w K [] w' W [q8 k [V3 A a b, V3 B c d] 26, tail (V3 T U V) 9 1] ∧ H6 ag W ∧ b7 B8 W T U V ac.1 ∧ d9 ac.2) bn ⟨o, q, s, ag, rfl, bp, kr, (am.mono (l.le.trans ab.le)), I0⟩ ?_
    rintro ac _ ch cj bq br ⟨T, U, V, W, rfl, ai, ad, ay, ck⟩
    refine k8 (sr (mv rfl (mv rfl (lv (k9 underlying114 rfl (ax.mono ad)) (lv (n8 rfl rfl) (nq (B5 bq rfl (fun bs aj => ?_) (fun bs aj => ?_))))))))
    ·refine i6 (qs (i5 (i7 (mv rfl (mv rfl (mv rfl ?_))))))
     obtain ⟨az, bu, bv⟩ := ob aj
     refine li underlying114 F9 (ax.mono ad) bu fun bz bA cl bB bC => ?_
     obtain ⟨rfl, bD, cm⟩ := bB
     have bE : D0 _ bz bA [sv az.Text, V6 az.At] := bC
     refine fa a1q rfl (lv (u0 D9 rfl ai (bE 0 _ rfl)) ?_)
     obtain ⟨cn, bF, bG⟩ := ob bv
     have aA := ai.f1
     refine lk b7z (a5E F aA.e1 ay bD bF) ?_
     rintro cp cq ⟨bH, bI, bJ, bK, rfl, aB, bL⟩
     have bM := (aA.c1 aB).t2
     refine av rfl (nb (j6 (i7 (mv rfl (lv (s6 rfl rfl) (av rfl (d7 ?_)))))))
     cases oi bG
     exact qd ⟨_, rfl, bH, bI, bJ, bK, rfl, bM.f1, (ad.trans aB.le), bL, (l9 _)⟩
    refine q7 (d4 (d4 ?_))
    cases oi aj
    cases br _ rfl
    refine j5 ?_
    cases oi bo
    exact qd ⟨T, U, V, W, rfl, ai, ad, ay⟩
   rintro _ cr ⟨J, O, R, S, rfl, bN, bO, bP⟩
   refine o0 (j6 (i7 (mv rfl (lv (s6 rfl rfl) (av rfl (d7 ?_))))))
   cases oi bm
   exact qd ⟨_, rfl, J, O, R, S, rfl, bN, (((y.trans l.le).trans ab.le).trans bO), bP, (l9 _)⟩
  refine q7 (d4 (d4 ?_))
  cases oi af
  cases aQ _ rfl
  refine j5 ?_
  cases oi aO
  exact qd ⟨o, q, s, x, rfl, al.s, y, am⟩
 rintro _ ct ⟨D, G, H, I, rfl, bQ, cu, bR⟩
 refine qr (mv rfl (av rfl (nq (i9 ?_))))
 cases oi aM
 exact ey results174 ⟨D, G, H, I, rfl, bQ, bR⟩

theorem a9k {q0 : q9} {q1 : s7} {q2 : k6} {q3 : k6} {r : (List Int)} (hS : SH w K [] w K []) (ai : b7 B8 K A a b q0.Stops) (aj : b7 I4 K B c d q0.Syns) (ak : d9 q1.Id) (al : b7 F3 K C f i q1.Fields) (am : b7 G5 K D k l q1.Nums) (an : q2.length ≤ maxLen) (bu : q3.length ≤ maxLen) (hm : a1i F q0 q1 q2 q3 = some r) :
  Calls prog 223 #[.agg #[V3 A a b, V3 B c d], .agg #[V6 q1.Id, V3 C f i, V3 D k l], sv q2, sv q3] w fun e w' => ∃ a_1 n_2 c_3 K', e = .returned (V3 a_1 n_2 c_3) ∧ SH w K [] w' K' [tail (V3 a_1 n_2 c_3) 3 1] ∧ b7 B7 K' a_1 n_2 c_3 r := by
 rw [a1i] at hm
 refine ci func223 rfl ntmps223 (sr (bx rfl hS fun ae bv ao => ?_))
 have ap : SH _ _ _ _ _ [q8 ae [V3 A a b, V3 B c d] 26] := ao
 refine bx rfl ap fun af bz aq => ?_
 have ar : SH _ _ _ _ _ [q8 af [V6 q1.Id, V3 C f i, V3 D k l] 54, _] := aq
 refine lv (r_n rfl) (nr (b0 B7 underlying55 D8 ar fun au bA aw U ax ay => (av rfl (ns ?_))))
 have G := ay.drew
 refine wh1 (fun w' => E7 aw w' ∧ y7 ae [V3 A a b, V3 B c d] w' ∧ y7 af [V6 q1.Id, V3 C f i, V3 D k l] w') (fun w' => True) 6 [] mixed ⟨G.hasK kr, G.hasObj m2, G.hasObj m1⟩ (fun _ => trivial) (gh (fun _ h => B2 (ds := [V3 A a b, V3 B c d]) E6 rfl rfl rfl h.2.1) (gh (fun _ h => B2 (ds := [V6 q1.Id, V3 C f i, V3 D k l]) C0 rfl rfl rfl h.2.2) (gt (d6 rfl) (gn ?_))))
 obtain ⟨bB, az, aA⟩ := ob hm
 refine lk b7A (a4n F G.enter0 ak (al.mono U) (am.mono U) an az) ?_
 rintro bC bD ⟨bE, rfl, m, aB⟩
 have H := (G.c0 m).t3
 refine d7 (qh ⟨H.hasK m.le, H.hasObj m2, H.hasObj m1⟩ (fun _ => trivial) (gn ?_))
 obtain ⟨bF, aC, aD⟩ := ob aA
 refine lk b1t (Z6 F H.enter0 (ai.mono (U.trans m.le)) (aj.mono (U.trans m.le)) aB aC) ?_
 rintro bG bH ⟨aE, aF, aG, X, rfl, Y, aa⟩
 have V := (H.c0 Y).t4
 refine d7 (qh ⟨V.hasK (m.le.trans Y.le), V.hasObj m3, V.hasObj m2⟩ (fun _ => trivial) (gt (r9 rfl) (gd' (qs (sr (lv (L3 rfl) (nq ?_)))))))
 obtain ⟨aH, aI, aJ⟩ := ob aD
 refine j4 (fun E' w' => ∃ I J O R, E' = [(9, V3 I J O)] ∧ SH w K [] w' R [tail (V3 I J O) 3 1] ∧ H6 X R ∧ b7 B7 R I J O aH) ?_ ?_
 ·refine i5 ?_
  obtain ⟨bI, aK, aL⟩ := ob aI
  have aM := V.sb (sd (sk (sd (sd sz))))
  refine qw (fun (W : (List Int) × Int) E' w' => ∃ o q s x, E' = [(3, sv q3), (9, V3 o q s), (10, V3 aE aF aG), (11, V6 W.2)] ∧ SH w K [] w' x [tail (V3 o q s) 3 1] ∧ H6 X x ∧ b7 B7 x o q s W.1 ∧ d9 W.2) aK ⟨au, 0, 0, X, rfl, aM, kr, (ax.mono (m.le.trans Y.le)), I0⟩ ?_
  rintro W _ bJ bK aN aO ⟨o, q, s, x, rfl, S, y, ab, bL⟩
  refine k8 (sr (mv rfl (mv rfl (lv (k9 underlying114 rfl (aa.mono y)) (lv (n8 rfl rfl) (nq (B5 aN rfl (fun aP ac => ?_) (fun aP ac => ?_))))))))
  ·refine i6 (qs (i5 (sr (mv rfl (mv rfl ?_)))))
   obtain ⟨ag, aQ, aR⟩ := ob ac
   refine li underlying114 F9 (aa.mono y) aQ fun aS aT bM aU aV => ?_
   obtain ⟨rfl, bN, bO⟩ := aU
   have aW : D0 _ aS aT [sv ag.Text, V6 ag.At] := aV
   refine fa a1q rfl (lv (u0 D9 rfl S (aW 0 _ rfl)) (mv rfl (lv (H0 rfl rfl) (nq (B5 aR rfl (fun aX ad => ?_) (fun aX ad => ?_))))))
   ·refine i7 (mv rfl (mv rfl (mv rfl ?_)))
    obtain ⟨T, aY, aZ⟩ := ob ad
    refine li underlying114 F9 (aa.mono y) aY fun ba bb bP bc bd => ?_
    obtain ⟨rfl, bQ, be⟩ := bc
    have bf : D0 _ ba bb [sv T.Text, V6 T.At] := bd
    refine fa a1r rfl (lv (u0 D8 rfl S (bf 1 _ rfl)) (lb B7 (V6 T.At) [V6 T.At] T.At underlying55 D8 ⟨rfl, be⟩ S fun bR bS bT ah bg bh => ?_))
    obtain ⟨bU, bi, bj⟩ := ob aZ
    refine lp underlying55 D8 (ab.mono ah) bg bi bh.f1 fun bk bl bm bV bn bo bp bq => (av rfl (nb (j6 (i7 (mv rfl (lv (s6 rfl rfl) (av rfl (d7 ?_))))))))
    cases oi bj
    exact qd ⟨_, rfl, bk, bl, bm, bn, rfl, bq.s, ((y.trans ah).trans bo), bp, (l9 _)⟩
   refine i6 (o0 (j6 (i7 (mv rfl (lv (s6 rfl rfl) (av rfl (d7 ?_)))))))
   cases oi ad
   exact qd ⟨_, rfl, o, q, s, x, rfl, S, y, ab, (l9 _)⟩
  refine q7 (d4 (d4 ?_))
  cases oi ac
  cases aO _ rfl
  refine j5 ?_
  cases oi aL
  exact qd ⟨o, q, s, x, rfl, S, y, ab⟩
 rintro _ bW ⟨I, J, O, R, rfl, br, bX, bs⟩
 refine qr (mv rfl (av rfl (nq (i9 ?_))))
 cases oi aJ
 exact ey results223 ⟨I, J, O, R, rfl, br, bs⟩

theorem a8n {q0 : q9} {q1 : List s7} {q2 : k6} {q3 : k6} {r : u9} (hS : SH w K [] w K []) (aG : b7 B8 K A a b q0.Stops) (aH : b7 I4 K B c d q0.Syns) (aa : b7 E1 K C f i q1) (ao : q2.length ≤ maxLen) (ap : q3.length ≤ maxLen) (hm : a0F F q0 q1 q2 q3 = some r) :
  Calls prog 175 #[.agg #[V3 A a b, V3 B c d], V3 C f i, sv q2, sv q3] w fun e w' => ∃ a_3 n_4 c_5 K', e = .returned (.agg #[sv r.Field, sv r.Term, V3 a_3 n_4 c_5]) ∧ SH w K [] w' K' [tail (V3 a_3 n_4 c_5) 71 2] ∧ r.Field.length ≤ maxLen ∧ r.Term.length ≤ maxLen ∧ b7 S1 K' a_3 n_4 c_5 r.Posts := by
 rw [a0F] at hm
 refine ci func175 rfl ntmps175 (sr (bx rfl hS fun T bL aI => ?_))
 have aJ : SH _ _ _ _ _ [q8 T [V3 A a b, V3 B c d] 26] := aI
 refine al E3 aJ fun J bM aK => ?_
 have aL : SH _ _ _ _ _ [q8 J [sv [], sv [], V3 none 0 0] 112, _] := aK
 refine nr (mv rfl (mv rfl (lv (A5 (cs := #[sv q2, sv q3, V3 none 0 0]) b7K E3 rfl (by kernel_rfl)) (al E3 aL fun H bN aM => ?_))))
 have aN : SH _ _ _ _ _ [q8 H [sv [], sv [], V3 none 0 0] 112, _, _] := aM
 refine lw [sv q2, sv q3, V3 none 0 0] E3 aN fun bO aO => (P6 (lv (L3 rfl) (nq ?_)))
 obtain ⟨l, aP, aQ⟩ := ob hm
 refine j4 (fun E' w' => ∃ o q s O, E' = [(8, pt J), (9, pt H)] ∧ SH w K [] w' O [q8 J [sv [], sv [], V3 none 0 0] 112, q8 H [sv l.Field, sv l.Term, V3 o q s] 112, tail (V3 o q s) 71 2] ∧ H6 K O ∧ l.Field.length ≤ maxLen ∧ l.Term.length ≤ maxLen ∧ b7 S1 O o q s l.Posts) ?_ ?_
 ·refine i5 ?_
  obtain ⟨bP, aR, aS⟩ := ob aP
  have aT := aO.nil 71 2
  refine qw (fun (k : Int × u9) E' w' => ∃ x y D I, E' = [(1, V3 C f i), (2, sv q2), (3, sv q3), (4, pt T), (8, pt J), (9, pt H), (10, V6 k.1)] ∧ SH w K [] w' I [q8 T [V3 A a b, V3 B c d] 26, q8 J [sv [], sv [], V3 none 0 0] 112, q8 H [sv k.2.Field, sv k.2.Term, V3 x y D] 112, tail (V3 x y D) 71 2] ∧ H6 K I ∧ d9 k.1 ∧ k.2.Field.length ≤ maxLen ∧ k.2.Term.length ≤ maxLen ∧ b7 S1 I x y D k.2.Posts) aR ⟨none, 0, 0, K, rfl, aT.f1.f2.f3, kr, I0, ao, ap, (b7.nil _ _)⟩ ?_
  rintro k _ bQ bR aU aV ⟨x, y, D, I, rfl, aq, m, bS, ab, ac, ad⟩
  refine k8 (sr (mv rfl (mv rfl (lv (k9 underlying35 rfl (aa.mono m)) (lv (n8 rfl rfl) (nq (B5 aU rfl (fun aW ae => ?_) (fun aW ae => ?_))))))))
  ·refine i6 (qs (i5 (k8 ?_)))
   have U := aq.drew
   refine wh1 (fun w' => E7 I w' ∧ y7 T [V3 A a b, V3 B c d] w') (fun w' => True) 9 [] mixed ⟨U.hasK kr, U.hasObj m0⟩ (fun _ => trivial) (gh (fun _ h => B2 (ds := [V3 A a b, V3 B c d]) E6 rfl rfl rfl h.2) (gt (d6 rfl) (gt (d6 rfl) ?_)))
   obtain ⟨ar, aX, aY⟩ := ob ae
   refine gi underlying35 C0 (aa.mono m) aX fun aZ ba bT bb bc => ?_
   obtain ⟨au, aw, ax, ay, az, aA, rfl, bd, be, bf⟩ := bb
   have bg : D0 _ aZ ba [V6 ar.Id, V3 au aw ax, V3 ay az aA] := bc
   refine gh (fun _ h => a3U (cs := [V6 ar.Id, V3 au aw ax, V3 ay az aA]) C0 rfl bg rfl h.1) (gt (d6 rfl) (gt (d6 rfl) (gn ?_)))
   obtain ⟨bh, bi, bj⟩ := ob aY
   refine lk b9o (a9k F U.enter0 (aG.mono m) (aH.mono m) bd be bf ao ap bi) ?_
   rintro bU bV ⟨V, W, X, aB, rfl, G, aC⟩
   have Y := (U.c0 G).t5
   refine d7 (qh ⟨Y.hasK G.le, Y.hasObj m1⟩ (fun _ => trivial) (gt (r9 rfl) (gd' (qr (mv rfl (lv (k9 underlying55 rfl aC) (lv (E5 rfl rfl) (nq (B5 bj rfl (fun bk af => ?_) (fun bk af => ?_))))))))))
   ·have ag := Y.drew
    refine wh1 (fun w' => E7 aB w') (fun w' => y7 H [sv k.2.Field, sv k.2.Term, V3 x y D] w') 12 [(1, 10), (1, 11), (1, 12), (10, 11), (10, 12), (11, 12)] mixed (ag.hasK kr) (fun _ => ag.hasObj (.tail _ (.tail _ (.tail _ (.head _))))) (gt (b8 L1 rfl) (gf (fun _ h => y2 a2Q rfl rfl h) (gt (d6 rfl) (gt (d6 rfl) ?_))))
    obtain ⟨R, bl, bm⟩ := ob af
    refine gi underlying35 C0 (aa.mono (m.trans G.le)) bl fun bn bo bW bp bq => ?_
    obtain ⟨br, bs, bu, bv, bz, bA, rfl, bB, bX, bY⟩ := bp
    have bC : D0 _ bn bo [V6 R.Id, V3 br bs bu, V3 bv bz bA] := bq
    refine gt (b8 X7 rfl) (gh (fun _ h => a0M D8 rfl (bC 0 _ rfl) h) (gt (d6 rfl) (gt (A5 (cs := #[V6 R.Id, V3 V W X]) b9S a1m rfl (by kernel_rfl)) (gn (lb S1 (.agg #[V6 R.Id, V3 V W X]) [V6 R.Id, V3 V W X] (D5.mk R.Id bh) underlying57 a1m ⟨V, W, X, rfl, bB, aC⟩ ag fun bZ ca cb S bD ah => (d7 (qh (ah.hasK S) (fun _ => ah.hasObj (.tail _ (.tail _ (.tail _ (.tail _ (.head _)))))) (gn ?_))))))))
    obtain ⟨cc, bE, bF⟩ := ob bm
    refine lp underlying57 a1m (ad.mono (G.le.trans S)) bD bE ah.f5 fun ai aj ak cd bG am bH an => (d7 (qh (an.hasK (S.trans am)) (fun _ => an.hasObj (.tail _ (.tail _ (.tail _ (.tail _ (.tail _ (.head _))))))) (gt (b8 L1 rfl) (gn (ls [sv k.2.Field, sv k.2.Term, V3 ai aj ak] (V3 ai aj ak) a2Q an.f5 fun ce aD => (d7 (qh (aD.hasK (S.trans am)) (fun h => nomatch h) (gd' (o0 (j6 (i7 ?_)))))))))))
    refine mv rfl (lv (s6 rfl rfl) (av rfl (d7 ?_)))
    cases oi bF
    exact qd ⟨_, rfl, ai, aj, ak, bG, rfl, aD.f1.f1.f5.f5.s, (((m.trans G.le).trans S).trans am), (l9 _), ab, ac, bH⟩
   refine i6 (o0 (j6 (i7 (mv rfl (lv (s6 rfl rfl) (av rfl (d7 ?_)))))))
   cases oi af
   exact qd ⟨_, rfl, x, y, D, aB, rfl, Y.s, (m.trans G.le), (l9 _), ab, ac, (ad.mono G.le)⟩
  refine q7 (d4 (d4 ?_))
  cases oi ae
  cases aV _ rfl
  refine j5 ?_
  cases oi aS
  exact qd ⟨x, y, D, I, rfl, aq.s, m, ab, ac, ad⟩
 rintro _ cf ⟨o, q, s, O, rfl, aE, cg, bI, bJ, bK⟩
 refine qr (lv (l3 (ds := [sv l.Field, sv l.Term, V3 o q s]) E3 rfl m1 aE rfl rfl) (lw [sv l.Field, sv l.Term, V3 o q s] E3 aE fun ch aF => (nq (i9 ?_))))
 cases oi aQ
 exact ez results175 E3 aF m0 ⟨o, q, s, O, rfl, aF.s, bI, bJ, bK⟩

theorem a6v {q0 : q9} {q1 : List s7} {r : z2} (hS : SH w K [] w K []) (bH : b7 B8 K A a b q0.Stops) (bI : b7 I4 K B c d q0.Syns) (aw : b7 E1 K C f i q1) (hm : a1B F q0 q1 = some r) :
  Calls prog 128 #[.agg #[V3 A a b, V3 B c d], V3 C f i] w fun e w' => ∃ a_1 n_2 c_3 a_5 n_6 c_7 cs_8 K', e = .returned (.agg #[V3 a_1 n_2 c_3, V3 a_5 n_6 c_7]) ∧ SH w K [] w' K' [tail (V3 a_1 n_2 c_3) 54 3, Q3 (V3 a_5 n_6 c_7) cs_8 112 3] ∧ b7 E1 K' a_1 n_2 c_3 r.Docs ∧ A4 true z6 K' cs_8 r.Entries ∧ n_6 = r.Entries.length := by
 rw [a1B] at hm
 refine ci func128 rfl ntmps128 (sr (bx rfl hS fun o ee cc => ?_))
 have cd : SH _ _ _ _ _ [q8 o [V3 A a b, V3 B c d] 26] := cc
 refine al G0 cd fun l ef ce => ?_
 have cf : SH _ _ _ _ _ [q8 l [V3 none 0 0, V3 none 0 0] 46, _] := ce
 refine nr (lv (A5 (cs := #[V3 none 0 0, V3 none 0 0]) b8z G0 rfl (by kernel_rfl)) (al G0 cf fun k eg cg => ?_))
 have ch : SH _ _ _ _ _ [q8 k [V3 none 0 0, V3 none 0 0] 46, _, _] := cg
 refine lw [V3 none 0 0, V3 none 0 0] G0 ch fun eh bJ => (nr (mv rfl ?_))
 obtain ⟨ei, cj, ck⟩ := ob hm
 refine lk b89 (a8o F bJ.enter0 aw cj) ?_
 rintro ej ek ⟨aW, aX, aY, aZ, rfl, q, ba⟩
 have cl := (bJ.c0 q).t4
 refine av rfl (P6 (lv (L3 rfl) (nq ?_)))
 obtain ⟨bb, cm, cn⟩ := ob ck
 refine j4 (fun E' w' => ∃ ax ay az aL aA aM cs53 x, E' = [(1, V3 C f i), (4, pt l), (5, pt k)] ∧ SH w K [] w' x [q8 l [V3 none 0 0, V3 none 0 0] 46, q8 k [V3 ax ay az, V3 aL aA aM] 46, Q3 (V3 aL aA aM) cs53 112 3, tail (V3 ax ay az) 54 3] ∧ H6 aZ x ∧ b7 E1 x ax ay az bb.Docs ∧ A4 true z6 x cs53 bb.Entries ∧ aA = bb.Entries.length) ?_ ?_
 ·refine i5 ?_
  obtain ⟨el, cp, cq⟩ := ob cm
  have cr := SH.rowNil cl 112 3
  have ct := cr.nil 54 3
  have cu := ct.f1.f3.f4.f5.sb (sk (sk (sk (sk (sk (sd sz))))))
  refine qw (fun (y : Int × z2) E' w' => ∃ ac ad ae aB af aC cs72 S, E' = [(1, V3 C f i), (2, pt o), (4, pt l), (5, pt k), (6, V3 aW aX aY), (7, V6 y.1)] ∧ SH w K [] w' S [q8 o [V3 A a b, V3 B c d] 26, q8 l [V3 none 0 0, V3 none 0 0] 46, q8 k [V3 ac ad ae, V3 aB af aC] 46, Q3 (V3 aB af aC) cs72 112 3, tail (V3 ac ad ae) 54 3] ∧ H6 aZ S ∧ d9 y.1 ∧ b7 E1 S ac ad ae y.2.Docs ∧ A4 true z6 S cs72 y.2.Entries ∧ af = y.2.Entries.length) cp ⟨none, 0, 0, none, 0, 0, [], aZ, rfl, cu, kr, I0, (b7.nil _ _), (A4.nil z6 _), rfl⟩ ?_
  rintro y _ em en cv cw ⟨ac, ad, ae, aB, af, aC, cs72, S, rfl, bK, m, eo, bL, hrow73, hm74⟩
  refine k8 (sr (mv rfl (mv rfl (lv (k9 underlying23 rfl (ba.mono m)) (lv (n8 rfl rfl) (nq (B5 cv rfl (fun cx bc => ?_) (fun cx bc => ?_))))))))
  ·refine i6 (qs (i5 (k8 ?_)))
   have aN := bK.drew
   refine wh1 (fun w' => E7 S w' ∧ y7 o [V3 A a b, V3 B c d] w') (fun w' => True) 8 [] mixed ⟨aN.hasK kr, aN.hasObj m0⟩ (fun _ => trivial) (gh (fun _ h => B2 (ds := [V3 A a b, V3 B c d]) E6 rfl rfl rfl h.2) (gt (d6 rfl) (gt (d6 rfl) (gt (d6 rfl) ?_))))
   obtain ⟨cy, cz, cA⟩ := ob bc
   refine gi underlying23 D9 (ba.mono m) cz fun cB cC ep cD cE => ?_
   obtain ⟨rfl, cF⟩ := cD
   have cG : D0 _ cB cC [sv cy] := cE
   refine gh (fun _ h => a0M D9 rfl (cG 0 _ rfl) h.1) (gn ?_)
   obtain ⟨eq, cH, cI⟩ := ob cA
   refine lk b9a (a8p F aN.enter0 (bH.mono (q.le.trans m)) (bI.mono (q.le.trans m)) (aw.mono (q.le.trans m)) cF cH) ?_
   rintro es et ⟨cJ, cK, cL, bd, rfl, s, bM⟩
   have be := (aN.c0 s).t6
   refine d7 (qh ⟨be.hasK s.le, be.hasObj m1⟩ (fun _ => trivial) (gt (r9 rfl) (gd' (qr (lv (L3 rfl) (nq ?_))))))
   obtain ⟨bf, cM, cN⟩ := ob cI
   refine j4 (fun E' w' => ∃ aD aE aF aO aG aP cs125 ag, E' = [(1, V3 C f i), (2, pt o), (4, pt l), (5, pt k), (6, V3 aW aX aY), (7, V6 y.1)] ∧ SH w K [] w' ag [q8 o [V3 A a b, V3 B c d] 26, q8 l [V3 none 0 0, V3 none 0 0] 46, q8 k [V3 aD aE aF, V3 aO aG aP] 46, Q3 (V3 aO aG aP) cs125 112 3, tail (V3 aD aE aF) 54 3] ∧ H6 bd ag ∧ b7 E1 ag aD aE aF bf.Docs ∧ A4 true z6 ag cs125 bf.Entries ∧ aG = bf.Entries.length) ?_ ?_
   ·refine i5 ?_
    obtain ⟨eu, cO, cP⟩ := ob cM
    have cQ := be.sb (sd (sk (sk (sk (sk (sk sz))))))
    refine qw (fun (ah : Int × z2) E' w' => ∃ D G H aH ai aI cs144 T, E' = [(1, V3 C f i), (2, pt o), (4, pt l), (5, pt k), (6, V3 aW aX aY), (7, V6 y.1), (8, V3 cJ cK cL), (9, V6 ah.1)] ∧ SH w K [] w' T [q8 o [V3 A a b, V3 B c d] 26, q8 l [V3 none 0 0, V3 none 0 0] 46, q8 k [V3 D G H, V3 aH ai aI] 46, Q3 (V3 aH ai aI) cs144 112 3, tail (V3 D G H) 54 3] ∧ H6 bd T ∧ d9 ah.1 ∧ b7 E1 T D G H ah.2.Docs ∧ A4 true z6 T cs144 ah.2.Entries ∧ ai = ah.2.Entries.length) cO ⟨ac, ad, ae, aB, af, aC, cs72, bd, rfl, cQ, kr, I0, (bL.mono s.le), (A4.mono s.le hrow73), hm74⟩ ?_
    rintro ah _ ev ew cR cS ⟨D, G, H, aH, ai, aI, cs144, T, rfl, bN, I, ex, bO, hrow145, hm146⟩
    refine k8 (sr (mv rfl (mv rfl (lv (k9 underlying23 rfl (bM.mono I)) (lv (n8 rfl rfl) (nq (B5 cR rfl (fun cT bg => ?_) (fun cT bg => ?_))))))))
    ·refine i6 (qs (i5 ?_))
     have aJ := bN.drew
     refine wh1 (fun w' => E7 T w' ∧ y7 o [V3 A a b, V3 B c d] w') (fun w' => y7 k [V3 D G H, V3 aH ai aI] w') 16 [(1, 14), (1, 15), (1, 16), (14, 15), (14, 16), (15, 16)] mixed ⟨aJ.hasK kr, aJ.hasObj m0⟩ (fun _ => aJ.hasObj (.tail _ (.tail _ (.head _)))) (gt (b8 G3 rfl) (gf (fun _ h => y2 tf44 rfl rfl h) (gh (fun _ h => B2 (ds := [V3 A a b, V3 B c d]) E6 rfl rfl rfl h.2) (gt (d6 rfl) (gt (d6 rfl) (gt (d6 rfl) ?_))))))
     obtain ⟨cU, cV, cW⟩ := ob bg
     refine gi underlying23 D9 (ba.mono ((m.trans s.le).trans I)) cV fun cX cY eA cZ da => ?_
     obtain ⟨rfl, db⟩ := cZ
     have dc : D0 _ cX cY [sv cU] := da
     refine gh (fun _ h => a0M D9 rfl (dc 0 _ rfl) h.1) (gt (d6 rfl) (gt (d6 rfl) ?_))
     obtain ⟨dd, de, df⟩ := ob cW
     refine gi underlying23 D9 (bM.mono I) de fun dg dh eB di dj => ?_
     obtain ⟨rfl, dk⟩ := di
     have dl : D0 _ dg dh [sv dd] := dj
     refine gh (fun _ h => a0M D9 rfl (dl 0 _ rfl) h.1) (gn ?_)
     obtain ⟨aK, dm, dn⟩ := ob df
     refine lk b9b (a8n F aJ.enter0 (b7.mono (((q.le.trans m).trans s.le).trans I) bH) (b7.mono (((q.le.trans m).trans s.le).trans I) bI) (b7.mono (((q.le.trans m).trans s.le).trans I) aw) db dk dm) ?_
     rintro eC eD ⟨bh, bi, bj, eE, rfl, J, dp, dq, dr⟩
     have aQ := (aJ.c0 J).t6
     refine d7 (qh ⟨aQ.hasK J.le, aQ.hasObj m1⟩ (fun _ => aQ.hasObj (.tail _ (.tail _ (.tail _ (.head _))))) (gn (lb z6 (.agg #[sv aK.Field, sv aK.Term, V3 bh bi bj]) [sv aK.Field, sv aK.Term, V3 bh bi bj] aK underlying44 E3 ⟨bh, bi, bj, rfl, dp, dq, dr⟩ aQ fun eF eG dt aj du aR => (d7 (qh ⟨aR.hasK (J.le.trans aj), aR.hasObj m2⟩ (fun _ => aR.hasObj (.tail _ (.tail _ (.tail _ (.tail _ (.head _)))))) (gn ?_))))))
     obtain ⟨eH, dv, dw⟩ := ob dn
     refine a9K (t := z6) wn rfl underlying44 E3 rfl rfl rfl rfl (A4.mono (J.le.trans aj) hrow145) hm146 du dv aR.f5 fun bk bl bm cs202 eI hrow204 hm205 aS => (d7 (qh ⟨aS.hasK (J.le.trans aj), aS.hasObj m3⟩ (fun _ => aS.hasObj (.tail _ (.tail _ (.tail _ (.tail _ (.tail _ (.head _))))))) (gt (b8 G3 rfl) (gn (ls [V3 D G H, V3 bk bl bm] (V3 bk bl bm) tf44 aS.f5 fun eJ bn => (d7 (qh ⟨bn.hasK (J.le.trans aj), bn.hasObj m4⟩ (fun h => nomatch h) (gd' (o0 (j6 (i7 ?_)))))))))))
     refine mv rfl (lv (s6 rfl rfl) (av rfl (d7 ?_)))
     cases oi dw
     exact qd ⟨_, rfl, D, G, H, bk, bl, bm, cs202, dt, rfl, bn.f6.f2.f2.f6.f6.s, ((I.trans J.le).trans aj), (l9 _), (bO.mono (J.le.trans aj)), hrow204, hm205⟩
    refine q7 (d4 (d4 ?_))
    cases oi bg
    cases cS _ rfl
    refine j5 ?_
    cases oi cP
    exact qd ⟨D, G, H, aH, ai, aI, cs144, T, rfl, bN, I, bO, hrow145, hm146⟩
   rintro _ eK ⟨aD, aE, aF, aO, aG, aP, cs125, ag, rfl, dx, dy, dz, hrow126, hm127⟩
   refine o0 (j6 (i7 (mv rfl (lv (s6 rfl rfl) (av rfl (d7 ?_))))))
   cases oi cN
   exact qd ⟨_, rfl, aD, aE, aF, aO, aG, aP, cs125, ag, rfl, dx, ((m.trans s.le).trans dy), (l9 _), dz, hrow126, hm127⟩
  refine q7 (d4 (d4 ?_))
  cases oi bc
  cases cw _ rfl
  refine j5 ?_
  cases oi cq
  exact qd ⟨ac, ad, ae, aB, af, aC, cs72, S, rfl, bK.s, m, bL, hrow73, hm74⟩
 rintro _ eL ⟨ax, ay, az, aL, aA, aM, cs53, x, rfl, dA, bP, dB, hrow54, hm55⟩
 refine qs (sr (lv (L3 rfl) (nq ?_)))
 obtain ⟨bo, dC, dD⟩ := ob cn
 refine j4 (fun E' w' => ∃ U V W ak X am cs233 an, E' = [(4, pt l), (5, pt k)] ∧ SH w K [] w' an [q8 l [V3 none 0 0, V3 none 0 0] 46, q8 k [V3 U V W, V3 ak X am] 46, Q3 (V3 ak X am) cs233 112 3, tail (V3 U V W) 54 3] ∧ H6 x an ∧ b7 E1 an U V W bo.Docs ∧ A4 true z6 an cs233 bo.Entries ∧ X = bo.Entries.length) ?_ ?_
 ·refine i5 ?_
  obtain ⟨eM, dE, dF⟩ := ob dC
  refine qw (fun (ao : Int × z2) E' w' => ∃ ap aq ar Y O aa cs252 ab, E' = [(1, V3 C f i), (4, pt l), (5, pt k), (10, V6 ao.1)] ∧ SH w K [] w' ab [q8 l [V3 none 0 0, V3 none 0 0] 46, q8 k [V3 ap aq ar, V3 Y O aa] 46, Q3 (V3 Y O aa) cs252 112 3, tail (V3 ap aq ar) 54 3] ∧ H6 x ab ∧ d9 ao.1 ∧ b7 E1 ab ap aq ar ao.2.Docs ∧ A4 true z6 ab cs252 ao.2.Entries ∧ O = ao.2.Entries.length) dE ⟨ax, ay, az, aL, aA, aM, cs53, x, rfl, dA, kr, I0, dB, hrow54, hm55⟩ ?_
  rintro ao _ eN eO dG dH ⟨ap, aq, ar, Y, O, aa, cs252, ab, rfl, bQ, aT, eP, bR, hrow253, hm254⟩
  refine k8 (sr (mv rfl (mv rfl (lv (k9 underlying35 rfl (aw.mono ((q.le.trans bP).trans aT))) (lv (n8 rfl rfl) (nq (B5 dG rfl (fun dI bp => ?_) (fun dI bp => ?_))))))))
  ·refine i6 (qs (i5 ?_))
   have aU := bQ.drew
   refine wh1 (fun w' => E7 ab w') (fun w' => y7 k [V3 ap aq ar, V3 Y O aa] w') 10 [(1, 8), (1, 9), (1, 10), (8, 9), (8, 10), (9, 10)] mixed (aU.hasK kr) (fun _ => aU.hasObj (.tail _ (.head _))) (gt (b8 a03 rfl) (gf (fun _ h => y2 a5w rfl rfl h) (gt (d6 rfl) (gt (d6 rfl) ?_))))
   obtain ⟨bS, dJ, dK⟩ := ob bp
   refine gi underlying35 C0 (aw.mono ((q.le.trans bP).trans aT)) dJ fun dL dM eQ dN dO => ?_
   obtain ⟨bT, bU, bV, bW, bX, bY, rfl, dP, dQ, dR⟩ := dN
   have dS : D0 _ dL dM [V6 bS.Id, V3 bT bU bV, V3 bW bX bY] := dO
   refine gh (fun _ h => a3U (cs := [V6 bS.Id, V3 bT bU bV, V3 bW bX bY]) C0 rfl dS rfl h) (gn ?_)
   obtain ⟨bq, dT, dU⟩ := ob dK
   refine lk b9c (a6u F aU.enter0 dP dQ dR dT) ?_
   rintro eR eS ⟨br, bs, bu, bv, bz, bA, eT, rfl, R, dV, dW, dX⟩
   have bB := (aU.c0 R).t6
   refine d7 (qh (bB.hasK R.le) (fun _ => bB.hasObj (.tail _ (.tail _ (.tail _ (.head _))))) (gn (lb E1 (.agg #[V6 bq.Id, V3 br bs bu, V3 bv bz bA]) [V6 bq.Id, V3 br bs bu, V3 bv bz bA] bq underlying35 C0 ⟨br, bs, bu, bv, bz, bA, rfl, dV, dW, dX⟩ bB fun eU eV eW au dY bC => (d7 (qh (bC.hasK (R.le.trans au)) (fun _ => bC.hasObj (.tail _ (.tail _ (.tail _ (.tail _ (.head _)))))) (gn ?_))))))
   obtain ⟨eX, dZ, ea⟩ := ob dU
   refine lp underlying35 C0 (bR.mono (R.le.trans au)) dY dZ bC.f6 fun bD bE bF eY eb aV ec bG => (d7 (qh (bG.hasK ((R.le.trans au).trans aV)) (fun _ => bG.hasObj (.tail _ (.tail _ (.tail _ (.tail _ (.tail _ (.head _))))))) (gt (b8 a03 rfl) (gn (ls [V3 bD bE bF, V3 Y O aa] (V3 bD bE bF) a5w bG.f5 fun eZ bZ => (d7 (qh (bZ.hasK ((R.le.trans au).trans aV)) (fun h => nomatch h) (gd' (o0 (j6 (i7 ?_)))))))))))
   refine mv rfl (lv (s6 rfl rfl) (av rfl (d7 ?_)))
   cases oi ea
   exact qd ⟨_, rfl, bD, bE, bF, Y, O, aa, cs252, eb, rfl, bZ.f1.f6.f2.f6.s, (((aT.trans R.le).trans au).trans aV), (l9 _), ec, (A4.mono ((R.le.trans au).trans aV) hrow253), hm254⟩
  refine q7 (d4 (d4 ?_))
  cases oi bp
  cases dH _ rfl
  refine j5 ?_
  cases oi dF
  exact qd ⟨ap, aq, ar, Y, O, aa, cs252, ab, rfl, bQ, aT, bR, hrow253, hm254⟩
 rintro _ fb ⟨U, V, W, ak, X, am, cs233, an, rfl, ca, fc, ed, hrow234, hm235⟩
 refine qr (lv (l3 (ds := [V3 U V W, V3 ak X am]) G0 rfl m1 ca rfl rfl) (lw [V3 U V W, V3 ak X am] G0 ca fun fd cb => (nq (i9 ?_))))
 cases oi dD
 exact ez results128 G0 cb m0 ⟨U, V, W, ak, X, am, cs233, an, rfl, cb.f2.f3.s, ed, hrow234, hm235⟩

theorem a9f {q0 : u5} {q1 : Int} {r : s7 × u5} (hS : SH w K Z w K [q8 g1 [V3 A a b, V6 q0.p_] 145]) (bW : b7 tU8 K A a b q0.b_) (bX : d9 q0.p_) (bo : d9 q1) (hm : a1d F q0 q1 = some r) :
  Calls prog 219 #[.pointer (some ⟨g1, 0, none⟩), V6 q1] w fun e w' => ∃ a_2 n_3 c_4 a_6 n_7 c_8 a_10 n_11 c_12 K', e = .returned (.agg #[V6 r.1.Id, V3 a_2 n_3 c_4, V3 a_6 n_7 c_8]) ∧ SH w K Z w' K' [tail (V3 a_2 n_3 c_4) 158 2, tail (V3 a_6 n_7 c_8) 197 2, q8 g1 [V3 a_10 n_11 c_12, V6 r.2.p_] 145] ∧ d9 r.1.Id ∧ b7 F3 K' a_2 n_3 c_4 r.1.Fields ∧ b7 G5 K' a_6 n_7 c_8 r.1.Nums ∧ b7 tU8 K' a_10 n_11 c_12 r.2.b_ ∧ d9 r.2.p_ := by
 rw [a1d] at hm
 refine ci func219 rfl ntmps219 (sr (al C0 hS fun I w9 bY => ?_))
 have bZ : SH _ _ _ _ _ [q8 I [V6 0, V3 none 0 0, V3 none 0 0] 54, _] := bY
 refine nr (mv rfl (lv (A5 (cs := #[V6 q1, V3 none 0 0, V3 none 0 0]) a93 C0 rfl (by kernel_rfl)) (al C0 bZ fun k dX ca => ?_)))
 have cb : SH _ _ _ _ _ [q8 k [V6 0, V3 none 0 0, V3 none 0 0] 54, _, _] := ca
 refine lw [V6 q1, V3 none 0 0, V3 none 0 0] C0 cb fun dY cc => (P6 (mv rfl ?_))
 obtain ⟨dZ, cd, ce⟩ := ob hm
 have bp := cc.f2
 refine lk a2C (u7 F bp.e1 bW bX (by decide : d9 6) cd) ?_
 rintro ea eb ⟨cf, cg, ch, aB, rfl, cj, ec, bq, br⟩
 have bs := (bp.c1 cj).t3
 refine lv (E5 rfl rfl) (nq ?_)
 obtain ⟨l, ck, cl⟩ := ob ce
 refine j4 (fun E' w' => ∃ aC aD aE S T U o q s V, E' = [(0, pt g1), (4, pt I), (5, pt k)] ∧ SH w K Z w' V [q8 g1 [V3 aC aD aE, V6 l.1.p_] 145, q8 I [V6 0, V3 none 0 0, V3 none 0 0] 54, q8 k [V6 l.2.Id, V3 S T U, V3 o q s] 54, tail (V3 S T U) 158 2, tail (V3 o q s) 197 2] ∧ H6 aB V ∧ b7 tU8 V aC aD aE l.1.b_ ∧ d9 l.1.p_ ∧ d9 l.2.Id ∧ b7 F3 V S T U l.2.Fields ∧ b7 G5 V o q s l.2.Nums) ?_ ?_
 ·refine B5 ck rfl (fun cm aF => ?_) (fun cm aF => ?_)
  ·have ao := bs.drew
   refine wh1 (fun w' => E7 aB w') (fun w' => y7 k [V6 q1, V3 none 0 0, V3 none 0 0] w') 8 [(1, 6), (1, 7), (1, 8), (6, 7), (6, 8), (7, 8)] mixed (ao.hasK kr) (fun _ => ao.hasObj (.tail _ (.head _))) (gt (b8 W0 rfl) (gf (fun _ h => y2 a3Y rfl rfl h) (gt (d6 rfl) (gn ?_))))
   obtain ⟨ap, cn, cp⟩ := ob aF
   refine lk b7D (a4m F ao.e1 bq br cn) ?_
   rintro ed ee ⟨cq, cr, ct, ef, rfl, W, cu, cv, cw⟩
   have aG := (ao.c1 W).t3
   refine d7 (qh (aG.hasK W.le) (fun _ => aG.hasObj (.tail _ (.head _))) (gt (A5 (cs := #[sv [98, 111, 100, 121], sv ap.1]) b7M M9 rfl (by kernel_rfl)) (gn (lb F3 (.agg #[sv [98, 111, 100, 121], sv ap.1]) [sv [98, 111, 100, 121], sv ap.1] (I5.mk ([98, 111, 100, 121] : k6) ap.1) underlying51 M9 ⟨rfl, (by decide : ([98, 111, 100, 121] : k6).length ≤ maxLen), cu⟩ aG fun eg eh ei ae cx aH => (d7 (qh (aH.hasK (W.le.trans ae)) (fun _ => aH.hasObj (.tail _ (.tail _ (.head _)))) (gn ?_)))))))
   have cy := aH.nil 158 2
   obtain ⟨ej, cz, cA⟩ := ob cp
   refine lp underlying51 M9 (b7.nil _ _) cx cz cy fun aI aJ aK ek cB aq cC aL => (d7 (qh (aL.hasK ((W.le.trans ae).trans aq)) (fun _ => aL.hasObj (.tail _ (.tail _ (.tail _ (.head _))))) (gt (b8 W0 rfl) (gn (ls [V6 q1, V3 aI aJ aK, V3 none 0 0] (V3 aI aJ aK) a3Y aL.f3 fun el bu => (d7 (qh (bu.hasK ((W.le.trans ae).trans aq)) (fun h => nomatch h) (gd' ?_))))))))
   cases oi cA
   have cD := bu.nil 197 2
   exact qd ⟨cq, cr, ct, aI, aJ, aK, none, 0, 0, cB, rfl, cD.f2.f2.f5.f5.s, ((W.le.trans ae).trans aq), (cv.mono (ae.trans aq)), cw, bo, cC, (b7.nil _ _)⟩
  refine i6 ?_
  cases oi aF
  have cE := bs.nil 158 2
  have cF := cE.nil 197 2
  exact qd ⟨cf, cg, ch, none, 0, 0, none, 0, 0, aB, rfl, cF.f1.f3.f4.f4, kr, bq, br, bo, (b7.nil _ _), (b7.nil _ _)⟩
 rintro _ em ⟨aC, aD, aE, S, T, U, o, q, s, V, rfl, bv, en, cG, cH, bx, bz, bA⟩
 refine qs (sr (mv rfl ?_))
 obtain ⟨eo, cI, cJ⟩ := ob cl
 refine lk a2C (u7 F bv.e1 cG cH (by decide : d9 3) cI) ?_
 rintro ep eq ⟨cK, cL, cM, aM, rfl, af, es, bB, bC⟩
 have bD := (bv.c1 af).t5
 refine lv (u3 rfl rfl) (nq ?_)
 obtain ⟨m, cN, cO⟩ := ob cJ
 refine j4 (fun E' w' => ∃ aN aO aP v x y X Y aa ab, E' = [(0, pt g1), (4, pt I), (5, pt k)] ∧ SH w K Z w' ab [q8 g1 [V3 aN aO aP, V6 m.1.p_] 145, q8 I [V6 0, V3 none 0 0, V3 none 0 0] 54, q8 k [V6 m.2.Id, V3 v x y, V3 X Y aa] 54, tail (V3 v x y) 158 2, tail (V3 X Y aa) 197 2] ∧ H6 aM ab ∧ b7 tU8 ab aN aO aP m.1.b_ ∧ d9 m.1.p_ ∧ d9 m.2.Id ∧ b7 F3 ab v x y m.2.Fields ∧ b7 G5 ab X Y aa m.2.Nums) ?_ ?_
 ·refine B5 cN rfl (fun cP aQ => ?_) (fun cP aQ => ?_)
  ·have ar := bD.drew
   refine wh1 (fun w' => E7 aM w') (fun w' => y7 k [V6 l.2.Id, V3 S T U, V3 o q s] w') 8 [(1, 6), (1, 7), (1, 8), (6, 7), (6, 8), (7, 8)] mixed (ar.hasK kr) (fun _ => ar.hasObj (.tail _ (.tail _ (.head _)))) (gt (b8 W0 rfl) (gf (fun _ h => y2 a3Y rfl rfl h) (gt (d6 rfl) (gn ?_))))
   obtain ⟨au, cQ, cR⟩ := ob aQ
   refine lk b7D (a4m F ar.e1 bB bC cQ) ?_
   rintro et eu ⟨cS, cT, cU, ev, rfl, B, cV, cW, cX⟩
   have aR := (ar.c1 B).t5
   refine d7 (qh (aR.hasK B.le) (fun _ => aR.hasObj (.tail _ (.tail _ (.head _)))) (gt (A5 (cs := #[sv [116, 105, 116, 108, 101], sv au.1]) b7M M9 rfl (by kernel_rfl)) (gn (lb F3 (.agg #[sv [116, 105, 116, 108, 101], sv au.1]) [sv [116, 105, 116, 108, 101], sv au.1] (I5.mk ([116, 105, 116, 108, 101] : k6) au.1) underlying51 M9 ⟨rfl, (by decide : ([116, 105, 116, 108, 101] : k6).length ≤ maxLen), cV⟩ aR fun ew ex eA J cY aS => (d7 (qh (aS.hasK (B.le.trans J)) (fun _ => aS.hasObj (.tail _ (.tail _ (.tail _ (.head _))))) (gn ?_)))))))
   obtain ⟨eB, cZ, da⟩ := ob cR
   refine lp underlying51 M9 (bz.mono ((af.le.trans B.le).trans J)) cY cZ aS.f4 fun aT aU aV eC db ag dc aW => (d7 (qh (aW.hasK ((B.le.trans J).trans ag)) (fun _ => aW.hasObj (.tail _ (.tail _ (.tail _ (.tail _ (.head _)))))) (gt (b8 W0 rfl) (gn (ls [V6 l.2.Id, V3 aT aU aV, V3 o q s] (V3 aT aU aV) a3Y aW.f4 fun eD bE => (d7 (qh (bE.hasK ((B.le.trans J).trans ag)) (fun h => nomatch h) (gd' ?_))))))))
   cases oi da
   exact qd ⟨cS, cT, cU, aT, aU, aV, o, q, s, db, rfl, bE.f5.f2.f2.f5.f5.s, ((B.le.trans J).trans ag), (cW.mono (J.trans ag)), cX, bx, dc, (b7.mono (((af.le.trans B.le).trans J).trans ag) bA)⟩
  refine i6 ?_
  cases oi aQ
  exact qd ⟨cK, cL, cM, S, T, U, o, q, s, aM, rfl, bD, kr, bB, bC, bx, (bz.mono af.le), (bA.mono af.le)⟩
 rintro _ eE ⟨aN, aO, aP, v, x, y, X, Y, aa, ab, rfl, bF, eF, dd, de, bG, bH, bI⟩
 refine qs (sr (mv rfl ?_))
 obtain ⟨eG, df, dg⟩ := ob cO
 refine lk a2C (u7 F bF.e1 dd de (by decide : d9 3) df) ?_
 rintro eH eI ⟨dh, di, dj, aX, rfl, ah, eJ, bJ, bK⟩
 have bL := (bF.c1 ah).t5
 refine lv (E5 rfl rfl) (nq ?_)
 obtain ⟨c, dk, dl⟩ := ob dg
 refine j4 (fun E' w' => ∃ aY aZ ba d f i C D G ac, E' = [(0, pt g1), (4, pt I), (5, pt k)] ∧ SH w K Z w' ac [q8 g1 [V3 aY aZ ba, V6 c.1.p_] 145, q8 I [V6 0, V3 none 0 0, V3 none 0 0] 54, q8 k [V6 c.2.Id, V3 d f i, V3 C D G] 54, tail (V3 d f i) 158 2, tail (V3 C D G) 197 2] ∧ H6 aX ac ∧ b7 tU8 ac aY aZ ba c.1.b_ ∧ d9 c.1.p_ ∧ d9 c.2.Id ∧ b7 F3 ac d f i c.2.Fields ∧ b7 G5 ac C D G c.2.Nums) ?_ ?_
 ·refine B5 dk rfl (fun dm bb => ?_) (fun dm bb => ?_)
  ·have aw := bL.drew
   refine wh1 (fun w' => E7 aX w') (fun w' => y7 k [V6 m.2.Id, V3 v x y, V3 X Y aa] w') 8 [(1, 6), (1, 7), (1, 8), (6, 7), (6, 8), (7, 8)] mixed (aw.hasK kr) (fun _ => aw.hasObj (.tail _ (.tail _ (.head _)))) (gt (b8 X8 rfl) (gf (fun _ h => y2 a4e rfl rfl h) (gt (d6 rfl) (gn ?_))))
   obtain ⟨ax, dn, dp⟩ := ob bb
   refine lk a2C (u7 F aw.e1 bJ bK (by decide : d9 4) dn) ?_
   rintro eK eL ⟨dq, dr, dt, eM, rfl, H, du, dv, dw⟩
   have bc := (aw.c1 H).t5
   refine d7 (qh (bc.hasK H.le) (fun _ => bc.hasObj (.tail _ (.tail _ (.head _)))) (gt (A5 (cs := #[sv [114, 97, 116, 101], V6 ax.1]) b7O P9 rfl (by kernel_rfl)) (gn (lb G5 (.agg #[sv [114, 97, 116, 101], V6 ax.1]) [sv [114, 97, 116, 101], V6 ax.1] (a2r.mk ([114, 97, 116, 101] : k6) ax.1) underlying52 P9 ⟨rfl, (by decide : ([114, 97, 116, 101] : k6).length ≤ maxLen), du⟩ bc fun eN eO eP O dx bd => (d7 (qh (bd.hasK (H.le.trans O)) (fun _ => bd.hasObj (.tail _ (.tail _ (.tail _ (.head _))))) (gn ?_)))))))
   obtain ⟨eQ, dy, dz⟩ := ob dp
   refine lp underlying52 P9 (bI.mono ((ah.le.trans H.le).trans O)) dx dy bd.f5 fun be bf bg eR dA ai dB bh => (d7 (qh (bh.hasK ((H.le.trans O).trans ai)) (fun _ => bh.hasObj (.tail _ (.tail _ (.tail _ (.tail _ (.head _)))))) (gt (b8 X8 rfl) (gn (ls [V6 m.2.Id, V3 v x y, V3 be bf bg] (V3 be bf bg) a4e bh.f4 fun eS bM => (d7 (qh (bM.hasK ((H.le.trans O).trans ai)) (fun h => nomatch h) (gd' ?_))))))))
   cases oi dz
   exact qd ⟨dq, dr, dt, v, x, y, be, bf, bg, dA, rfl, bM.f1.f5.f2.f5.f5.s, ((H.le.trans O).trans ai), (dv.mono (O.trans ai)), dw, bG, (b7.mono (((ah.le.trans H.le).trans O).trans ai) bH), dB⟩
  refine i6 ?_
  cases oi bb
  exact qd ⟨dh, di, dj, v, x, y, X, Y, aa, aX, rfl, bL, kr, bJ, bK, bG, (bH.mono ah.le), (bI.mono ah.le)⟩
 rintro _ eT ⟨aY, aZ, ba, d, f, i, C, D, G, ac, rfl, bN, eU, dC, dD, bO, bP, bQ⟩
 refine qs (sr (mv rfl ?_))
 obtain ⟨eV, dE, dF⟩ := ob dl
 refine lk a2C (u7 F bN.e1 dC dD (by decide : d9 3) dE) ?_
 rintro eW eX ⟨dG, dH, dI, bR, rfl, aj, eY, bS, bT⟩
 have bi := (bN.c1 aj).t5
 refine lv (u3 rfl rfl) (nq (B5 dF rfl (fun dJ bj => ?_) (fun dJ bj => ?_)))
 ·have ay := bi.drew
  refine wh1 (fun w' => E7 bR w') (fun w' => y7 k [V6 c.2.Id, V3 d f i, V3 C D G] w') 9 [(1, 7), (1, 8), (1, 9), (7, 8), (7, 9), (8, 9)] mixed (ay.hasK kr) (fun _ => ay.hasObj (.tail _ (.tail _ (.head _)))) (gt (b8 X8 rfl) (gf (fun _ h => y2 a4e rfl rfl h) (gt (d6 rfl) (gn ?_))))
  obtain ⟨az, dK, dL⟩ := ob bj
  refine lk a2C (u7 F ay.e1 bS bT (by decide : d9 30) dK) ?_
  rintro eZ fb ⟨dM, dN, dO, fc, rfl, R, fd, dP, dQ⟩
  have bk := (ay.c1 R).t5
  refine d7 (qh (bk.hasK R.le) (fun _ => bk.hasObj (.tail _ (.tail _ (.head _)))) (gt (s6 rfl rfl) (gt (A5 (cs := #[sv [121, 101, 97, 114], V6 (u6 ((2000 : Int) + az.1))]) b7O P9 rfl (by kernel_rfl)) (gn (lb G5 (.agg #[sv [121, 101, 97, 114], V6 (u6 ((2000 : Int) + az.1))]) [sv [121, 101, 97, 114], V6 (u6 ((2000 : Int) + az.1))] (a2r.mk ([121, 101, 97, 114] : k6) (u6 ((2000 : Int) + az.1))) underlying52 P9 ⟨rfl, (by decide : ([121, 101, 97, 114] : k6).length ≤ maxLen), (l9 _)⟩ bk fun fe fg fh ad dR bl => (d7 (qh (bl.hasK (R.le.trans ad)) (fun _ => bl.hasObj (.tail _ (.tail _ (.tail _ (.head _))))) (gn ?_))))))))
  obtain ⟨fi, dS, dT⟩ := ob dL
  refine lp underlying52 P9 (bQ.mono ((aj.le.trans R.le).trans ad)) dR dS bl.f5 fun ak am an fj dU aA dV bm => (d7 (qh (bm.hasK ((R.le.trans ad).trans aA)) (fun _ => bm.hasObj (.tail _ (.tail _ (.tail _ (.tail _ (.head _)))))) (gt (b8 X8 rfl) (gn (ls [V6 c.2.Id, V3 d f i, V3 ak am an] (V3 ak am an) a4e bm.f4 fun fk bn => (d7 (qh (bn.hasK ((R.le.trans ad).trans aA)) (fun h => nomatch h) (gd' (qr (lv (l3 (ds := [V6 c.2.Id, V3 d f i, V3 ak am an]) C0 rfl m0 bn rfl rfl) (lw [V6 c.2.Id, V3 d f i, V3 ak am an] C0 bn.f4 fun fm bU => ?_)))))))))))
  refine nq (i9 ?_)
  cases oi dT
  exact ez results219 C0 bU m0 ⟨d, f, i, ak, am, an, dM, dN, dO, dU, rfl, bU.f4.f3.f5.s, bO, (b7.mono (((aj.le.trans R.le).trans ad).trans aA) bP), dV, (dP.mono (ad.trans aA)), dQ⟩
 refine i6 (qr (lv (l3 (ds := [V6 c.2.Id, V3 d f i, V3 C D G]) C0 rfl m2 bi rfl rfl) (lw [V6 c.2.Id, V3 d f i, V3 C D G] C0 bi.f1 fun fn bV => (nq (i9 ?_)))))
 cases oi bj
 exact ez results219 C0 bV m0 ⟨d, f, i, C, D, G, dG, dH, dI, bR, rfl, bV.f1.f4.f4.s, bO, (bP.mono aj.le), (bQ.mono aj.le), bS, bT⟩

theorem a8k {q0 : u5} {r : (List s7) × u5} (hS : SH w K Z w K [q8 g1 [V3 A a b, V6 q0.p_] 145]) (aj : b7 tU8 K A a b q0.b_) (ak : d9 q0.p_) (hm : a0C F q0 = some r) :
  Calls prog 169 #[.pointer (some ⟨g1, 0, none⟩)] w fun e w' => ∃ a_1 n_2 c_3 a_5 n_6 c_7 K', e = .returned (V3 a_1 n_2 c_3) ∧ SH w K Z w' K' [tail (V3 a_1 n_2 c_3) 54 3, q8 g1 [V3 a_5 n_6 c_7, V6 r.2.p_] 145] ∧ b7 E1 K' a_1 n_2 c_3 r.1 ∧ b7 tU8 K' a_5 n_6 c_7 r.2.b_ ∧ d9 r.2.p_ := by
 rw [a0C] at hm
 refine ci func169 rfl ntmps169 (sr (lv (r_n rfl) (nr (b0 E1 underlying35 C0 hS fun a7 w8 K9 am an ao => (av rfl (nr (lv (L3 rfl) (P6 (mv rfl ?_)))))))))
 obtain ⟨bn, ap, aq⟩ := ob hm
 have ab := ao.f1
 refine lk a2C (u7 F ab.e1 (aj.mono am) ak (by decide : d9 6) ap) ?_
 rintro bo bp ⟨ar, au, aw, H, rfl, ac, ax, ay, az⟩
 have aA := (ab.c1 ac).t2
 refine av rfl (nq ?_)
 obtain ⟨s, aB, aC⟩ := ob aq
 refine j4 (fun E' w' => ∃ i k l x y B d, E' = [(0, pt g1), (3, V3 i k l)] ∧ SH w K Z w' d [q8 g1 [V3 x y B, V6 s.2.p_] 145, tail (V3 i k l) 54 3] ∧ H6 H d ∧ b7 E1 d i k l s.1 ∧ b7 tU8 d x y B s.2.b_ ∧ d9 s.2.p_) ?_ ?_
 ·refine i5 ?_
  obtain ⟨bq, aD, aE⟩ := ob aB
  refine qw (fun (c : (List s7) × Int × Int × u5) E' w' => ∃ m o q C D G f, E' = [(0, pt g1), (3, V3 m o q), (4, V6 c.2.1), (5, V6 c.2.2.1)] ∧ SH w K Z w' f [q8 g1 [V3 C D G, V6 c.2.2.2.p_] 145, tail (V3 m o q) 54 3] ∧ H6 H f ∧ b7 E1 f m o q c.1 ∧ d9 c.2.1 ∧ d9 c.2.2.1 ∧ b7 tU8 f C D G c.2.2.2.b_ ∧ d9 c.2.2.2.p_) aD ⟨a7, 0, 0, ar, au, aw, H, rfl, aA, kr, (an.mono ac.le), I0, ax, ay, az⟩ ?_
  rintro c _ br bs aF aG ⟨m, o, q, C, D, G, f, rfl, I, ad, ae, bu, bv, af, ag⟩
  refine k8 (sr (mv rfl (lv (E5 rfl rfl) (nq (B5 aF rfl (fun aH J => ?_) (fun aH J => ?_))))))
  ·refine i6 (qs (i5 (sr (mv rfl (lv (s6 rfl rfl) (mv rfl ?_))))))
   obtain ⟨bx, aI, aJ⟩ := ob J
   refine lk a2C (u7 F I.e1 af ag (by decide : d9 3) aI) ?_
   rintro bz bA ⟨bB, bC, bD, bE, rfl, O, bF, aK, aL⟩
   have ah := (I.c1 O).t2
   refine lv (s6 rfl rfl) (av rfl (nq (i7 (mv rfl (mv rfl (mv rfl ?_))))))
   obtain ⟨R, aM, aN⟩ := ob aJ
   refine lk b9m (a9f F ah.e1 aK aL (l9 _) aM) ?_
   rintro bG bH ⟨S, T, U, V, W, X, aO, aP, aQ, bI, rfl, Y, aR, aS, aT, aU, aV⟩
   have aW := (ah.c1 Y).t4
   refine lb E1 (.agg #[V6 R.1.Id, V3 S T U, V3 V W X]) [V6 R.1.Id, V3 S T U, V3 V W X] R.1 underlying35 C0 ⟨S, T, U, V, W, X, rfl, aR, aS, aT⟩ aW fun bJ bK bL aa aX aY => ?_
   obtain ⟨bM, aZ, ba⟩ := ob aN
   refine lp underlying35 C0 (ae.mono ((O.le.trans Y.le).trans aa)) aX aZ aY.f4 fun bb bc bd bN be ai bf bg => (av rfl (nb (j6 (i7 (mv rfl (lv (F2 rfl rfl) (av rfl (d7 ?_))))))))
   cases oi ba
   exact qd ⟨_, rfl, bb, bc, bd, aO, aP, aQ, be, rfl, bg.f4.s, ((((ad.trans O.le).trans Y.le).trans aa).trans ai), bf, (l9 _), (l9 _), (aU.mono (aa.trans ai)), aV⟩
  refine q7 (d4 (d4 ?_))
  cases oi J
  cases aG _ rfl
  refine j5 ?_
  cases oi aE
  exact qd ⟨m, o, q, C, D, G, f, rfl, I, ad, ae, af, ag⟩
 rintro _ bO ⟨i, k, l, x, y, B, d, rfl, bh, bP, bi, bj, bk⟩
 refine qr (mv rfl (av rfl (nq (i9 ?_))))
 cases oi aC
 exact ey results169 ⟨i, k, l, x, y, B, d, rfl, bh.f1, bi, bj, bk⟩

theorem a9h {q0 : u5} {r : q9 × z2 × u5} (hS : SH w K Z w K [q8 g1 [V3 A a b, V6 q0.p_] 145]) (V : b7 tU8 K A a b q0.b_) (W : d9 q0.p_) (hm : a1f F q0 = some r) :
  Calls prog 121 #[.pointer (some ⟨g1, 0, none⟩)] w fun e w' => ∃ a_1 n_2 c_3 a_5 n_6 c_7 a_9 n_10 c_11 a_13 n_14 c_15 cs_16 a_19 n_20 c_21 K', e = .returned (.tuple #[.agg #[V3 a_1 n_2 c_3, V3 a_5 n_6 c_7], .agg #[V3 a_9 n_10 c_11, V3 a_13 n_14 c_15]]) ∧ SH w K Z w' K' [tail (V3 a_1 n_2 c_3) 9 1, tail (V3 a_5 n_6 c_7) 96 2, tail (V3 a_9 n_10 c_11) 54 3, Q3 (V3 a_13 n_14 c_15) cs_16 112 3, q8 g1 [V3 a_19 n_20 c_21, V6 r.2.2.p_] 145] ∧ b7 B8 K' a_1 n_2 c_3 r.1.Stops ∧ b7 I4 K' a_5 n_6 c_7 r.1.Syns ∧ b7 E1 K' a_9 n_10 c_11 r.2.1.Docs ∧ A4 true z6 K' cs_16 r.2.1.Entries ∧ n_14 = r.2.1.Entries.length ∧ b7 tU8 K' a_19 n_20 c_21 r.2.2.b_ ∧ d9 r.2.2.p_ := by
 rw [a1f] at hm
 refine ci func121 rfl ntmps121 (sr (al E6 hS fun X w8 Y => ?_))
 have aa : SH _ _ _ _ _ [q8 X [V3 none 0 0, V3 none 0 0] 26, _] := Y
 refine al G0 aa fun ab aF ac => ?_
 have ad : SH _ _ _ _ _ [q8 ab [V3 none 0 0, V3 none 0 0] 46, _, _] := ac
 refine nr (mv rfl ?_)
 obtain ⟨aG, ae, af⟩ := ob hm
 have O := ad.f2
 refine lk b8D (a8j F O.e1 V W ae) ?_
 rintro aH aI ⟨f, i, k, l, m, o, aJ, aK, aL, ag, rfl, ah, R, S, ai, aj⟩
 have ak := (O.c1 ah).t5
 refine al E6 ak fun T aM am => ?_
 have an : SH _ _ _ _ _ [q8 T [V3 none 0 0, V3 none 0 0] 26, _, _, _, _, _] := am
 refine lw [V3 f i k, V3 l m o] E6 an fun aN ao => (ns ?_)
 have x := ao.drew
 refine wh1 (fun w' => E7 ag w' ∧ y7 T [V3 f i k, V3 l m o] w') (fun w' => True) 7 [] mixed ⟨x.hasK kr, x.hasObj m0⟩ (fun _ => trivial) (gh (fun _ h => B2 (ds := [V3 f i k, V3 l m o]) E6 rfl rfl rfl h.2) (gh (fun _ h => B2 (ds := [V3 f i k, V3 l m o]) E6 rfl rfl rfl h.2) (gt (d6 rfl) (gn ?_))))
 obtain ⟨aO, ap, aq⟩ := ob af
 have U := x.f3
 refine lk b86 (a8k F U.e1 ai aj ap) ?_
 rintro aP aQ ⟨aR, aS, aT, ar, au, aw, aU, rfl, d, ax, ay, az⟩
 have v := (U.c1 d).t7
 refine d7 (qh ⟨v.hasK d.le, v.hasObj m2⟩ (fun _ => trivial) (gn ?_))
 obtain ⟨aV, aA, aB⟩ := ob aq
 refine lk b7n (a6v F v.enter0 (R.mono d.le) (S.mono d.le) ax aA) ?_
 rintro aW aX ⟨y, B, C, D, G, H, cs76, aC, rfl, q, aD, hrow77, hm78⟩
 have I := (v.c0 q).t9
 refine d7 (qh ⟨I.hasK (d.le.trans q.le), I.hasObj m4⟩ (fun _ => trivial) (gn (lw [V3 f i k, V3 l m o] E6 I.f8 fun aY J => (d7 (qh ⟨J.hasK (d.le.trans q.le), J.hasObj m5⟩ (fun _ => trivial) (gn (lw [V3 y B C, V3 D G H] G0 J.f8 fun aZ s => (d7 (qh ⟨s.hasK (d.le.trans q.le), s.hasObj m6⟩ (fun _ => trivial) (gd' (j6 (i9 ?_))))))))))))
 cases oi aB
 exact R8 (vs := [_, _]) results121 ⟨⟨_, _, rfl, A8 E6 (cs := [V3 f i k, V3 l m o]) (fun j c e => by rw [Nat.zero_add, s.mem_obj m1]; exact e) (.inl ⟨rfl, rfl, rfl⟩)⟩, ⟨_, _, rfl, A8 G0 (cs := [V3 y B C, V3 D G H]) (fun j c e => by rw [Nat.zero_add, s.mem_obj m0]; exact e) (.inl ⟨rfl, rfl, rfl⟩)⟩, trivial⟩ ⟨f, i, k, l, m, o, y, B, C, D, G, H, cs76, ar, au, aw, aC, rfl, s.f5.f4.f4.f8.f8.s, (R.mono (d.le.trans q.le)), (S.mono (d.le.trans q.le)), aD, hrow77, hm78, (ay.mono q.le), az⟩

theorem a6t {q0 : u5} {r : q9 × z2 × u5} (hS : SH w K Z w K [q8 g1 [V3 A a b, V6 q0.p_] 145]) (bl : b7 tU8 K A a b q0.b_) (bm : d9 q0.p_) (hm : V5 F q0 = some r) :
  Calls prog 68 #[.pointer (some ⟨g1, 0, none⟩)] w fun e w' => ∃ a_1 n_2 c_3 a_5 n_6 c_7 a_9 n_10 c_11 a_13 n_14 c_15 a_17 n_18 c_19 K', e = .returned (.tuple #[.agg #[V3 a_1 n_2 c_3, V3 a_5 n_6 c_7], .agg #[V3 a_9 n_10 c_11, V3 a_13 n_14 c_15]]) ∧ SH w K Z w' K' [tail (V3 a_1 n_2 c_3) 9 1, tail (V3 a_5 n_6 c_7) 96 2, tail (V3 a_13 n_14 c_15) 112 3, q8 g1 [V3 a_17 n_18 c_19, V6 r.2.2.p_] 145] ∧ b7 B8 K' a_1 n_2 c_3 r.1.Stops ∧ b7 I4 K' a_5 n_6 c_7 r.1.Syns ∧ b7 E1 K' a_9 n_10 c_11 r.2.1.Docs ∧ b7 z6 K' a_13 n_14 c_15 r.2.1.Entries ∧ b7 tU8 K' a_17 n_18 c_19 r.2.2.b_ ∧ d9 r.2.2.p_ := by
 rw [V5] at hm
 refine ci func68 rfl ntmps68 (sr (al E6 hS fun g7 w8 bo => ?_))
 have bp : SH _ _ _ _ _ [q8 g7 [V3 none 0 0, V3 none 0 0] 26, _] := bo
 refine al G0 bp fun bq cJ br => ?_
 have bs : SH _ _ _ _ _ [q8 bq [V3 none 0 0, V3 none 0 0] 46, _, _] := br
 refine nr (mv rfl ?_)
 obtain ⟨cK, bu, bv⟩ := ob hm
 have bc := bs.f2
 refine lk b8L (a9h F bc.e1 bl bm bu) ?_
 rintro cL cM ⟨f, i, k, l, m, o, s, x, y, q, B, C, cs37, bx, bz, bA, bB, rfl, bC, aa, ab, ac, hrow38, hm39, bd, be⟩
 have bD := (bc.c1 bC).t7
 refine mv rfl (lv (B3 rfl rfl) (lv (B3 rfl rfl) (al E6 bD fun Y cN bE => ?_)))
 have bF : SH _ _ _ _ _ [q8 Y [V3 none 0 0, V3 none 0 0] 26, _, _, _, _, _, _, _] := bE
 refine al G0 bF fun O cO bG => ?_
 have bH : SH _ _ _ _ _ [q8 O [V3 none 0 0, V3 none 0 0] 46, _, _, _, _, _, _, _, _] := bG
 refine lw [V3 f i k, V3 l m o] E6 bH.f1 fun cP bI => (lw [V3 s x y, V3 q B C] G0 bI.f1 fun cQ ad => (P6 (fl G3 rfl tf44 m0 ad rfl (lv (a3V underlying44 rfl hm39) (lv (E5 rfl rfl) (nq (B5 bv rfl (fun bJ aR => ?_) (fun bJ aR => ?_))))))))
 ·refine sr (mv rfl (fl G3 rfl tf44 m0 ad rfl (lv (a3V underlying44 rfl hm39) ?_)))
  obtain ⟨aS, bK, bL⟩ := ob aR
  have bf := ad.f6
  refine lk a2C (u7 F bf.e1 bd be (a3o (b15 ad m5 hm39)) bK) ?_
  rintro cR cS ⟨cT, cU, cV, cW, rfl, D, cX, bM, bN⟩
  have bg := (bf.c1 D).t9
  refine av rfl (nr (mv rfl ?_))
  obtain ⟨cY, bO, bP⟩ := ob bL
  refine lk a2C (u7 F bg.e1 bM bN (by decide : d9 16) bO) ?_
  rintro cZ da ⟨aj, ak, am, an, rfl, G, db, ao, ap⟩
  have R := (bg.c1 G).t9
  refine nq (i5 (sr (lv (u3 rfl rfl) (av rfl (nq (B5 bP rfl (fun bQ aT => ?_) (fun bQ aT => ?_)))))))
  ·refine i7 (fl G3 rfl tf44 m1 R rfl (mv rfl ?_))
   obtain ⟨H, ae, bR⟩ := ob aT
   obtain ⟨dc, bh⟩ := SH.rowI_at R m6 hm39 ae
   obtain ⟨dd, bS, bT⟩ := A4.at (A4.mono (D.le.trans G.le) hrow38) ae
   obtain ⟨aq, ar, au, rfl, bU, de, bV⟩ := bS
   have bW : ∀ (j : Nat) (d : Value), [sv H.Field, sv H.Term, V3 aq ar au][j]? = some d → cs37[aS.1.toNat * z6.size + j]? = some d := bT
   refine lv (a2T (t := z6) underlying44 E3 rfl rfl bh hm39 ae) (fa X5 rfl (b46 (t := z6) (off := 1) (ds := [sv H.Field, sv H.Term, V3 aq ar au]) (v := sv [122, 122, 122]) (u := .agg #[sv H.Field, sv [122, 122, 122], V3 aq ar au]) (e := (u9.mk H.Field ([122, 122, 122] : k6) H.Posts)) wn D9 rfl rfl rfl rfl (by simp [Value.cells, Value.oneCell', sv]) bh R.f6 (A4.mono (D.le.trans G.le) hrow38) hm39 ae bW rfl rfl ⟨aq, ar, au, rfl, bU, (by decide : ([122, 122, 122] : k6).length ≤ maxLen), bV⟩ fun cs110 df hrow112 hm113 bX => ?_))
   have bY := b5B (e := (u9.mk H.Field ([122, 122, 122] : k6) H.Posts)) ae
   obtain ⟨dg, bZ, ca⟩ := A4.at hrow112 bY
   obtain ⟨cb, cc, cd, rfl, dh, di, dj⟩ := bZ
   have dk : ∀ (j : Nat) (d : Value), [sv ((u9.mk H.Field ([122, 122, 122] : k6) H.Posts).Field), sv ((u9.mk H.Field ([122, 122, 122] : k6) H.Posts).Term), V3 cb cc cd][j]? = some d → cs110[aS.1.toNat * z6.size + j]? = some d := ca
   refine nb (qs ?_)
   have aw := bX.drew
   refine wh1 (fun w' => E7 an w' ∧ y7 Y [V3 f i k, V3 l m o] w' ∧ y7 O [V3 s x y, V3 q B C] w') (fun w' => True) 4 [] mixed ⟨aw.hasK kr, aw.hasObj m3, aw.hasObj m2⟩ (fun _ => trivial) (gh (fun _ h => B2 (ds := [V3 f i k, V3 l m o]) E6 rfl rfl rfl h.2.1) (gh (fun _ h => B2 (ds := [V3 s x y, V3 q B C]) G0 rfl rfl rfl h.2.2) (gn (lw [V3 f i k, V3 l m o] E6 aw.f8 fun dl ax => (d7 (qh ⟨ax.hasK kr, ax.hasObj m4, ax.hasObj m3⟩ (fun _ => trivial) (gn (lw [V3 s x y, V3 q B C] G0 ax.f8 fun dm ay => (d7 (qh ⟨ay.hasK kr, ay.hasObj m5, ay.hasObj m4⟩ (fun _ => trivial) (gd' ?_)))))))))))
   refine j6 (i9 ?_)
   obtain ⟨ce, az, cf, aU⟩ := SH.freezeI ay.f2 hrow112 hm113
   cases oi bR
   exact R8 (vs := [_, _]) results68 ⟨⟨_, _, rfl, A8 E6 (cs := [V3 f i k, V3 l m o]) (fun j c e => by rw [Nat.zero_add, aU.mem_obj m2]; exact e) (.inl ⟨rfl, rfl, rfl⟩)⟩, ⟨_, _, rfl, A8 G0 (cs := [V3 s x y, V3 q B C]) (fun j c e => by rw [Nat.zero_add, aU.mem_obj m1]; exact e) (.inl ⟨rfl, rfl, rfl⟩)⟩, trivial⟩ ⟨f, i, k, l, m, o, s, x, y, q, B, C, aj, ak, am, ce, rfl, aU.f3.f1.f7.f7.s, (aa.mono ((D.le.trans G.le).trans az)), (ab.mono ((D.le.trans G.le).trans az)), (ac.mono ((D.le.trans G.le).trans az)), cf, (ao.mono az), ap⟩
  refine sr (lv (u3 rfl rfl) (av rfl (nq (B5 aT rfl (fun cg aV => ?_) (fun cg aV => ?_)))))
  ·have af := R.drew
   refine wh1 (fun w' => E7 an w') (fun w' => y7 O [V3 s x y, V3 q B C] w' ∧ a5K q cs37 w') 8 [(1, 8), (3, 5), (5, 6), (6, 7), (7, 8)] mixed (af.hasK kr) (fun _ => ⟨af.hasObj m1, af.hasRow m6⟩) (gt (b8 G3 rfl) (gf (fun _ h => y2 tf44 rfl rfl h.1) (gt (b8 G3 rfl) (gf (fun _ h => y2 tf44 rfl rfl h.1) (gt (d6 rfl) ?_)))))
   obtain ⟨I, aW, ch⟩ := ob aV
   obtain ⟨dn, bi⟩ := SH.rowI_at af m6 hm39 aW
   obtain ⟨dp, cj, ck⟩ := A4.at (A4.mono (D.le.trans G.le) hrow38) aW
   obtain ⟨ag, ah, ai, rfl, cl, cm, cn⟩ := cj
   have cp : ∀ (j : Nat) (d : Value), [sv I.Field, sv I.Term, V3 ag ah ai][j]? = some d → cs37[aS.1.toNat * z6.size + j]? = some d := ck
   refine gt (a2T (t := z6) underlying44 E3 rfl rfl bi hm39 aW) (gf (fun _ h => (b4A (ds := [sv I.Field, sv I.Term, V3 ag ah ai]) E3 rfl cp rfl bi h.2)) (gn (lb z6 (.agg #[sv I.Field, sv I.Term, V3 ag ah ai]) [sv I.Field, sv I.Term, V3 ag ah ai] I underlying44 E3 ⟨ag, ah, ai, rfl, cl, cm, cn⟩ af fun dq dr cq J cr aA => (d7 (qh (aA.hasK J) (fun _ => ⟨aA.hasObj m2, aA.hasRow m7⟩) (gn ?_))))))
   obtain ⟨dt, ct, cu⟩ := ob ch
   refine a9K (t := z6) wn rfl underlying44 E3 rfl rfl rfl rfl (A4.mono ((D.le.trans G.le).trans J) hrow38) hm39 cr ct aA.f7 fun S T U cs176 du hrow178 hm179 bj => (d7 (qh (bj.hasK J) (fun h => nomatch h) (gt (b8 G3 rfl) (gn (ls [V3 s x y, V3 S T U] (V3 S T U) tf44 bj.f3 fun dv bk => (d7 (qh (bk.hasK J) (fun h => nomatch h) (gd' (o0 (qs ?_))))))))))
   have aB := bk.drew
   refine wh1 (fun w' => E7 cq w' ∧ y7 Y [V3 f i k, V3 l m o] w' ∧ y7 O [V3 s x y, V3 S T U] w') (fun w' => True) 4 [] mixed ⟨aB.hasK kr, aB.hasObj m4, aB.hasObj m0⟩ (fun _ => trivial) (gh (fun _ h => B2 (ds := [V3 f i k, V3 l m o]) E6 rfl rfl rfl h.2.1) (gh (fun _ h => B2 (ds := [V3 s x y, V3 S T U]) G0 rfl rfl rfl h.2.2) (gn (lw [V3 f i k, V3 l m o] E6 aB.f9 fun dw aC => (d7 (qh ⟨aC.hasK kr, aC.hasObj m5, aC.hasObj m1⟩ (fun _ => trivial) (gn (lw [V3 s x y, V3 S T U] G0 aC.f9 fun dx aD => (d7 (qh ⟨aD.hasK kr, aD.hasObj m6, aD.hasObj m2⟩ (fun _ => trivial) (gd' ?_)))))))))))
   refine j6 (i9 ?_)
   obtain ⟨cv, aE, cw, aX⟩ := SH.freezeI aD.f3 hrow178 hm179
   cases oi cu
   exact R8 (vs := [_, _]) results68 ⟨⟨_, _, rfl, A8 E6 (cs := [V3 f i k, V3 l m o]) (fun j c e => by rw [Nat.zero_add, aX.mem_obj m2]; exact e) (.inl ⟨rfl, rfl, rfl⟩)⟩, ⟨_, _, rfl, A8 G0 (cs := [V3 s x y, V3 S T U]) (fun j c e => by rw [Nat.zero_add, aX.mem_obj m1]; exact e) (.inl ⟨rfl, rfl, rfl⟩)⟩, trivial⟩ ⟨f, i, k, l, m, o, s, x, y, S, T, U, aj, ak, am, cv, rfl, aX.f5.f1.f8.f8.s, (b7.mono (((D.le.trans G.le).trans J).trans aE) aa), (b7.mono (((D.le.trans G.le).trans J).trans aE) ab), (b7.mono (((D.le.trans G.le).trans J).trans aE) ac), cw, (ao.mono (J.trans aE)), ap⟩
  refine sr (lv (u3 rfl rfl) (av rfl (nq (B5 aV rfl (fun cx aY => ?_) (fun cx aY => ?_)))))
  ·refine i7 (fl a03 rfl a5w m1 R rfl ?_)
   obtain ⟨dy, cy, cz⟩ := ob aY
   refine a6M (t := E1) wn rfl underlying35 C0 rfl rfl (ac.mono (D.le.trans G.le)) cy fun V W X cA => (fa a03 rfl (ls [V3 V W X, V3 q B C] (V3 V W X) a5w R.f1 fun dz cB => (nb (qs ?_))))
   have aF := cB.drew
   refine wh1 (fun w' => E7 an w' ∧ y7 Y [V3 f i k, V3 l m o] w' ∧ y7 O [V3 V W X, V3 q B C] w') (fun w' => True) 4 [] mixed ⟨aF.hasK kr, aF.hasObj m2, aF.hasObj m0⟩ (fun _ => trivial) (gh (fun _ h => B2 (ds := [V3 f i k, V3 l m o]) E6 rfl rfl rfl h.2.1) (gh (fun _ h => B2 (ds := [V3 V W X, V3 q B C]) G0 rfl rfl rfl h.2.2) (gn (lw [V3 f i k, V3 l m o] E6 aF.f8 fun dA aG => (d7 (qh ⟨aG.hasK kr, aG.hasObj m3, aG.hasObj m1⟩ (fun _ => trivial) (gn (lw [V3 V W X, V3 q B C] G0 aG.f8 fun dB aH => (d7 (qh ⟨aH.hasK kr, aH.hasObj m4, aH.hasObj m2⟩ (fun _ => trivial) (gd' ?_)))))))))))
   refine j6 (i9 ?_)
   obtain ⟨cC, aI, cD, aZ⟩ := SH.freezeI aH.f8 (A4.mono (D.le.trans G.le) hrow38) hm39
   cases oi cz
   exact R8 (vs := [_, _]) results68 ⟨⟨_, _, rfl, A8 E6 (cs := [V3 f i k, V3 l m o]) (fun j c e => by rw [Nat.zero_add, aZ.mem_obj m2]; exact e) (.inl ⟨rfl, rfl, rfl⟩)⟩, ⟨_, _, rfl, A8 G0 (cs := [V3 V W X, V3 q B C]) (fun j c e => by rw [Nat.zero_add, aZ.mem_obj m1]; exact e) (.inl ⟨rfl, rfl, rfl⟩)⟩, trivial⟩ ⟨f, i, k, l, m, o, V, W, X, q, B, C, aj, ak, am, cC, rfl, aZ.f4.f1.f7.f7.s, (aa.mono ((D.le.trans G.le).trans aI)), (ab.mono ((D.le.trans G.le).trans aI)), (cA.mono aI), cD, (ao.mono aI), ap⟩
  refine i6 (o0 (qs ?_))
  have aJ := R.drew
  refine wh1 (fun w' => E7 an w' ∧ y7 Y [V3 f i k, V3 l m o] w' ∧ y7 O [V3 s x y, V3 q B C] w') (fun w' => True) 4 [] mixed ⟨aJ.hasK kr, aJ.hasObj m2, aJ.hasObj m1⟩ (fun _ => trivial) (gh (fun _ h => B2 (ds := [V3 f i k, V3 l m o]) E6 rfl rfl rfl h.2.1) (gh (fun _ h => B2 (ds := [V3 s x y, V3 q B C]) G0 rfl rfl rfl h.2.2) (gn (lw [V3 f i k, V3 l m o] E6 aJ.f8 fun dC aK => (d7 (qh ⟨aK.hasK kr, aK.hasObj m3, aK.hasObj m2⟩ (fun _ => trivial) (gn (lw [V3 s x y, V3 q B C] G0 aK.f8 fun dD aL => (d7 (qh ⟨aL.hasK kr, aL.hasObj m4, aL.hasObj m3⟩ (fun _ => trivial) (gd' ?_)))))))))))
  refine j6 (i9 ?_)
  obtain ⟨cE, aM, cF, ba⟩ := SH.freezeI aL.f8 (A4.mono (D.le.trans G.le) hrow38) hm39
  cases oi aY
  exact R8 (vs := [_, _]) results68 ⟨⟨_, _, rfl, A8 E6 (cs := [V3 f i k, V3 l m o]) (fun j c e => by rw [Nat.zero_add, ba.mem_obj m2]; exact e) (.inl ⟨rfl, rfl, rfl⟩)⟩, ⟨_, _, rfl, A8 G0 (cs := [V3 s x y, V3 q B C]) (fun j c e => by rw [Nat.zero_add, ba.mem_obj m1]; exact e) (.inl ⟨rfl, rfl, rfl⟩)⟩, trivial⟩ ⟨f, i, k, l, m, o, s, x, y, q, B, C, aj, ak, am, cE, rfl, ba.f3.f1.f7.f7.s, (aa.mono ((D.le.trans G.le).trans aM)), (ab.mono ((D.le.trans G.le).trans aM)), (ac.mono ((D.le.trans G.le).trans aM)), cF, (ao.mono aM), ap⟩
 refine i6 (qs ?_)
 have aN := ad.drew
 refine wh1 (fun w' => E7 bB w' ∧ y7 Y [V3 f i k, V3 l m o] w' ∧ y7 O [V3 s x y, V3 q B C] w') (fun w' => True) 4 [] mixed ⟨aN.hasK kr, aN.hasObj m1, aN.hasObj m0⟩ (fun _ => trivial) (gh (fun _ h => B2 (ds := [V3 f i k, V3 l m o]) E6 rfl rfl rfl h.2.1) (gh (fun _ h => B2 (ds := [V3 s x y, V3 q B C]) G0 rfl rfl rfl h.2.2) (gn (lw [V3 f i k, V3 l m o] E6 aN.f8 fun dE aO => (d7 (qh ⟨aO.hasK kr, aO.hasObj m2, aO.hasObj m1⟩ (fun _ => trivial) (gn (lw [V3 s x y, V3 q B C] G0 aO.f8 fun dF aP => (d7 (qh ⟨aP.hasK kr, aP.hasObj m3, aP.hasObj m2⟩ (fun _ => trivial) (gd' ?_)))))))))))
 refine j6 (i9 ?_)
 obtain ⟨cG, aQ, cH, bb⟩ := SH.freezeI aP.f7 hrow38 hm39
 cases oi aR
 exact R8 (vs := [_, _]) results68 ⟨⟨_, _, rfl, A8 E6 (cs := [V3 f i k, V3 l m o]) (fun j c e => by rw [Nat.zero_add, bb.mem_obj m2]; exact e) (.inl ⟨rfl, rfl, rfl⟩)⟩, ⟨_, _, rfl, A8 G0 (cs := [V3 s x y, V3 q B C]) (fun j c e => by rw [Nat.zero_add, bb.mem_obj m1]; exact e) (.inl ⟨rfl, rfl, rfl⟩)⟩, trivial⟩ ⟨f, i, k, l, m, o, s, x, y, q, B, C, bx, bz, bA, cG, rfl, bb.f8.f1.f7.f7.s, (aa.mono aQ), (ab.mono aQ), (ac.mono aQ), cH, (bd.mono aQ), be⟩

theorem a7e {q0 : List UInt8} {r : q9 × z2 × k6 × k6} (hS : SH w K [] w K []) (aw : b7 tU8 K A a b q0) (hm : k4 F q0 = some r) :
  Calls prog 24 #[V3 A a b] w fun e w' => ∃ a_1 n_2 c_3 a_5 n_6 c_7 a_9 n_10 c_11 a_13 n_14 c_15 K', e = .returned (.tuple #[.agg #[V3 a_1 n_2 c_3, V3 a_5 n_6 c_7], .agg #[V3 a_9 n_10 c_11, V3 a_13 n_14 c_15], sv r.2.2.1, sv r.2.2.2]) ∧ SH w K [] w' K' [tail (V3 a_1 n_2 c_3) 9 1, tail (V3 a_5 n_6 c_7) 96 2, tail (V3 a_13 n_14 c_15) 112 3] ∧ b7 B8 K' a_1 n_2 c_3 r.1.Stops ∧ b7 I4 K' a_5 n_6 c_7 r.1.Syns ∧ b7 E1 K' a_9 n_10 c_11 r.2.1.Docs ∧ b7 z6 K' a_13 n_14 c_15 r.2.1.Entries ∧ r.2.2.1.length ≤ maxLen ∧ r.2.2.2.length ≤ maxLen := by
 rw [k4] at hm
 refine ci func24 rfl ntmps24 (sr (al E6 hS fun g5 w6 ay => ?_))
 have az : SH _ _ _ _ _ [q8 g5 [V3 none 0 0, V3 none 0 0] 26] := ay
 refine al G0 az fun g9 bg aB => ?_
 have ac : SH _ _ _ _ _ [q8 g9 [V3 none 0 0, V3 none 0 0] 46, _] := aB
 refine lv (r_s rfl) (lv (r_s rfl) (nr (mv rfl ?_)))
 obtain ⟨bh, aC, aD⟩ := ob hm
 refine lk b90 (a8m F ac.enter0 aw aC) ?_
 rintro bi bj ⟨bk, bl, bm, bn, bo, rfl, aE, aF, aG⟩
 have ad := (ac.c0 aE).t3
 refine av rfl (nr (mv rfl ?_))
 obtain ⟨bp, aH, aI⟩ := ob aD
 refine lk b94 (a6t F ad.e1 aF aG aH) ?_
 rintro bq br ⟨k, l, m, o, q, s, x, y, B, C, D, G, bs, bu, bv, aJ, rfl, aK, ae, af, ag, ah, ai, aj⟩
 have aL := (ad.c1 aK).t6
 refine mv rfl (lv (B3 rfl rfl) (lv (B3 rfl rfl) (al E6 aL fun ak bx aM => ?_)))
 have aN : SH _ _ _ _ _ [q8 ak [V3 none 0 0, V3 none 0 0] 26, _, _, _, _, _, _] := aM
 refine al G0 aN fun am bz aO => ?_
 have aP : SH _ _ _ _ _ [q8 am [V3 none 0 0, V3 none 0 0] 46, _, _, _, _, _, _, _] := aO
 refine lw [V3 k l m, V3 o q s] E6 aP.f1 fun bA aQ => (lw [V3 x y B, V3 C D G] G0 aQ.f1 fun bB aR => (ns ?_))
 obtain ⟨bC, an, aS⟩ := ob aI
 obtain ⟨bD, ao, ap⟩ := ob aS
 have S := aR.drew
 refine j_0 (fun w' => E7 aJ w' ∧ y7 ak [V3 k l m, V3 o q s] w' ∧ y7 am [V3 x y B, V3 C D G] w') 11 [] mixed ⟨S.hasK kr, S.hasObj m1, S.hasObj m0⟩ (jh 0 rfl (fun _ h => B2 (ds := [V3 k l m, V3 o q s]) E6 rfl rfl rfl h.2.1) (jh 1 rfl (fun _ h => B2 (ds := [V3 x y B, V3 C D G]) G0 rfl rfl rfl h.2.2) (jv 2 rfl (d6 rfl) (jv 4 rfl (d6 rfl) (j2 3 5 rfl rfl ?_ ?_)))))
 ·have aq := S.f5
  refine lk c1x (b4d F aq.e1 ai aj an) ?_
  rintro bE bF ⟨bG, bH, bI, bJ, rfl, d, aT, aU, aV⟩
  have U := (aq.c1 d).t8
  refine W2 ⟨U.hasK d.le, U.hasObj m2, U.hasObj m1⟩ (j1 5 rfl (bw [[99, 97, 116], [100, 111, 103], [114, 117, 110], [110, 121], [110, 101, 119], [102, 111, 120], [122, 122], [108, 97, 114, 103]] underlying23 D9 U fun bK bL bM H aW V => (W2 ⟨V.hasK (d.le.trans H), V.hasObj m3, V.hasObj m2⟩ (j1 6 rfl ?_))))
  have ar := V.f1
  refine lk b1y (J9 F ar.e1 (aU.mono H) aV aW ao) ?_
  rintro bN bO ⟨bP, bQ, bR, aX, rfl, I, aY, bS, bT⟩
  have W := (ar.c1 I).t9
  refine W2 ⟨W.hasK ((d.le.trans H).trans I.le), W.hasObj m3, W.hasObj m2⟩ (j1 7 rfl (lw [V3 k l m, V3 o q s] E6 W.f8 fun bU X => (W2 ⟨X.hasK ((d.le.trans H).trans I.le), X.hasObj m4, X.hasObj m3⟩ (j1 8 rfl (lw [V3 x y B, V3 C D G] G0 X.f8 fun bV O => (W2 ⟨O.hasK ((d.le.trans H).trans I.le), O.hasObj m5, O.hasObj m4⟩ (jv 9 rfl (r9 rfl) (jv 10 rfl (r9 rfl) (jd ?_)))))))))
  refine j6 (i9 ?_)
  cases oi ap
  exact R8 (vs := [_, _, _, _]) results24 ⟨⟨_, _, rfl, A8 E6 (cs := [V3 k l m, V3 o q s]) (fun j c e => by rw [Nat.zero_add, O.mem_obj m1]; exact e) (.inl ⟨rfl, rfl, rfl⟩)⟩, ⟨_, _, rfl, A8 G0 (cs := [V3 x y B, V3 C D G]) (fun j c e => by rw [Nat.zero_add, O.mem_obj m0]; exact e) (.inl ⟨rfl, rfl, rfl⟩)⟩, rfl, rfl, trivial⟩ ⟨k, l, m, o, q, s, x, y, B, C, D, G, aX, rfl, O.s, (ae.mono ((d.le.trans H).trans I.le)), (af.mono ((d.le.trans H).trans I.le)), (ag.mono ((d.le.trans H).trans I.le)), (ah.mono ((d.le.trans H).trans I.le)), aT, aY⟩
 refine bw [[99, 97, 116], [100, 111, 103], [114, 117, 110], [110, 121], [110, 101, 119], [102, 111, 120], [122, 122], [108, 97, 114, 103]] underlying23 D9 S fun bW bX bY f aZ Y => (W2 ⟨Y.hasK f, Y.hasObj m2, Y.hasObj m1⟩ (j1 3 rfl ?_))
 have au := Y.f6
 refine lk c1x (b4d F au.e1 (ai.mono f) aj an) ?_
 rintro bZ ca ⟨cb, cc, cd, ce, rfl, i, ba, bb, bc⟩
 have T := (au.c1 i).t9
 refine W2 ⟨T.hasK (f.trans i.le), T.hasObj m3, T.hasObj m2⟩ (j1 6 rfl (lk b1y (J9 F T.e1 bb bc (aZ.mono i.le) ao) ?_))
 rintro cf cg ⟨ch, cj, ck, bd, rfl, J, be, cl, cm⟩
 have aa := (T.c1 J).t9
 refine W2 ⟨aa.hasK ((f.trans i.le).trans J.le), aa.hasObj m3, aa.hasObj m2⟩ (j1 7 rfl (lw [V3 k l m, V3 o q s] E6 aa.f8 fun cn ab => (W2 ⟨ab.hasK ((f.trans i.le).trans J.le), ab.hasObj m4, ab.hasObj m3⟩ (j1 8 rfl (lw [V3 x y B, V3 C D G] G0 ab.f8 fun cp R => (W2 ⟨R.hasK ((f.trans i.le).trans J.le), R.hasObj m5, R.hasObj m4⟩ (jv 9 rfl (r9 rfl) (jv 10 rfl (r9 rfl) (jd ?_)))))))))
 refine j6 (i9 ?_)
 cases oi ap
 exact R8 (vs := [_, _, _, _]) results24 ⟨⟨_, _, rfl, A8 E6 (cs := [V3 k l m, V3 o q s]) (fun j c e => by rw [Nat.zero_add, R.mem_obj m1]; exact e) (.inl ⟨rfl, rfl, rfl⟩)⟩, ⟨_, _, rfl, A8 G0 (cs := [V3 x y B, V3 C D G]) (fun j c e => by rw [Nat.zero_add, R.mem_obj m0]; exact e) (.inl ⟨rfl, rfl, rfl⟩)⟩, rfl, rfl, trivial⟩ ⟨k, l, m, o, q, s, x, y, B, C, D, G, bd, rfl, R.s, (ae.mono ((f.trans i.le).trans J.le)), (af.mono ((f.trans i.le).trans J.le)), (ag.mono ((f.trans i.le).trans J.le)), (ah.mono ((f.trans i.le).trans J.le)), ba, be⟩

theorem b04 {q0 : q9} {q1 : z2} {r : Bool} (hS : SH w K [] w K []) (ad : b7 B8 K A a b q0.Stops) (ae : b7 I4 K B c d q0.Syns) (af : b7 E1 K C f i q1.Docs) (ag : b7 z6 K D k l q1.Entries) (hm : a1C F q0 q1 = some r) :
  Calls prog 74 #[.agg #[V3 A a b, V3 B c d], .agg #[V3 C f i, V3 D k l]] w (R_b w K r) := by
 rw [a1C] at hm
 refine ci func74 rfl ntmps74 (sr (bx rfl hS fun O bO aA => ?_))
 have aB : SH _ _ _ _ _ [q8 O [V3 A a b, V3 B c d] 26] := aA
 refine bx rfl aB fun o bP aC => ?_
 have R : SH _ _ _ _ _ [q8 o [V3 C f i, V3 D k l] 46, _] := aC
 refine lv (M7 rfl) (ns (k8 ?_))
 obtain ⟨aD, aE, aF⟩ := ob hm
 refine j4 (IV w K [] K [(2, pt O), (3, pt o), (15, .bool aD)] [q8 O [V3 A a b, V3 B c d] 26, q8 o [V3 C f i, V3 D k l] 46]) ?_ ?_
 ·refine i7 (lv (l3 (ds := [V3 A a b, V3 B c d]) E6 rfl m1 R rfl rfl) ?_)
  obtain ⟨bQ, aG, aH⟩ := ob aE
  refine lk b9F (a6s F R.enter0 ad ae aG) ?_
  rintro bR bS ⟨aI, rfl, y⟩
  have G := (R.c0 y).t2
  refine lv (y4 rfl) (mv rfl (bt aH (fun m S => ?_) (fun m S => ?_)))
  ·refine lu m (lu m (lu m (lu m (lv (K5 rfl m rfl) (d7 ?_)))))
   cases oi S
   exact qd ⟨aI, rfl, G.f1, y.le⟩
  refine lg m (b8 a03 rfl) (lg m (l8 a5w rfl m0 G rfl) ?_)
  obtain ⟨bT, aJ, aK⟩ := ob S
  refine x9 (wg rfl rfl m) rfl (x8 (vs := [V3 C f i]) b8Q rfl) (a9j F G.enter0 (af.mono y.le) aJ) ?_
  rintro bU bV ⟨aL, rfl, ah⟩
  refine ⟨_, rfl, ?_⟩
  have aM := (G.c0 ah).t2
  refine lg m (y4 rfl) (lv (j9 rfl m rfl) (d7 ?_))
  cases oi aK
  exact qd ⟨aL, rfl, aM.f1, (y.le.trans ah.le)⟩
 rintro _ bW ⟨aN, rfl, q, s⟩
 refine j6 (B5 aF rfl (fun aO T => ?_) (fun aO T => ?_))
 ·refine sr (lv (M7 rfl) (nq (rr ?_)))
  cases oi T
  exact ey results74 ⟨aN, rfl, q.s⟩
 refine i6 (qr (lv (l3 (ds := [V3 A a b, V3 B c d]) E6 rfl m0 q rfl rfl) (fl a03 rfl a5w m1 q rfl ?_)))
 obtain ⟨bX, aP, aQ⟩ := ob T
 refine lk b7n (a6v F q.enter0 (ad.mono s) (ae.mono s) (af.mono s) aP) ?_
 rintro bY bZ ⟨ai, aj, ak, am, an, ao, cs68, ca, rfl, U, cb, hrow69, hm70⟩
 have aR := (q.c0 U).t4
 obtain ⟨H, ap, V, aS⟩ := SH.freezeI aR.f1 hrow69 hm70
 refine al G0 aS fun W cc aT => ?_
 have aU : SH _ _ _ _ _ [q8 W [V3 none 0 0, V3 none 0 0] 46, _, _, _, _] := aT
 refine lw [V3 ai aj ak, V3 am an ao] G0 aU fun cd I => (P6 (fl G3 rfl tf44 m0 I rfl (lv (k9 underlying44 rfl V) (fl G3 rfl tf44 m4 I rfl (lv (k9 underlying44 rfl (ag.mono ((s.trans U.le).trans ap))) (lv (W3 rfl rfl) (nq (B5 aQ rfl (fun aV X => ?_) (fun aV X => ?_)))))))))
 ·refine sr (lv (M7 rfl) (nq (rr ?_)))
  cases oi X
  exact ey results74 ⟨H, rfl, I.s⟩
 refine i6 (qs (sr (lv (L3 rfl) (nq ?_))))
 obtain ⟨aW, aX, J⟩ := ob X
 refine j4 (IE aW w K [] H [] []) ?_ ?_
 ·refine i5 ?_
  obtain ⟨ce, aY, aq⟩ := ob aX
  have aZ := I.f4.sb (sk (sk (sd (sd (sd sz)))))
  refine qw (fun (Y : Int) => IW w K [] H [(3, pt o), (5, pt W), (6, V6 Y)] [q8 o [V3 C f i, V3 D k l] 46, q8 W [V3 ai aj ak, V3 am an ao] 46] (d9 Y)) aY ⟨H, rfl, aZ, kr, I0⟩ ?_
  rintro Y _ cf cg ba ar ⟨bb, rfl, aa, x, ch⟩
  refine k8 (sr (mv rfl (fl G3 rfl tf44 m1 aa rfl (lv (k9 underlying44 rfl (V.mono x)) (lv (n8 rfl rfl) (nq (B5 ba rfl (fun bc ab => ?_) (fun bc ab => ?_))))))))
  ·refine i6 (qs (i5 (k8 (C2 mixed (by kernel_rfl) aa (kv (b8 G3 rfl) (kh (u2 tf44 rfl m1 rfl) (km rfl ?_)))))))
   obtain ⟨au, bd, be⟩ := ob ab
   refine ki underlying44 E3 (V.mono x) bd fun bf bg cj bh bi => ?_
   obtain ⟨bj, bk, bl, rfl, bm, bn, bo⟩ := bh
   have bp : D0 _ bf bg [sv au.Field, sv au.Term, V3 bj bk bl] := bi
   refine kh (a3e E3 rfl bp rfl) (kv (b8 G3 rfl) (kh (u2 tf44 rfl m0 rfl) (km rfl ?_)))
   obtain ⟨aw, bq, br⟩ := ob be
   refine ki underlying44 E3 (b7.mono (((s.trans U.le).trans ap).trans x) ag) bq fun bs bu ck bv bz => ?_
   obtain ⟨bA, bB, bC, rfl, bD, bE, bF⟩ := bv
   have bG : D0 _ bs bu [sv aw.Field, sv aw.Term, V3 bA bB bC] := bz
   refine kh (a3e E3 rfl bG rfl) ?_
   obtain ⟨cl, bH, bI⟩ := ob br
   refine kc b8R (fun _ _ bJ ax => (a5v F) bJ.enter0 bm bn (bo.mono ax) bD bE (bF.mono ax) bH) (kv (y4 rfl) (z7 ?_))
   rintro cm ⟨ay, az, bK⟩
   refine j6 (B5 bI rfl (fun bL ac => ?_) (fun bL ac => ?_))
   ·refine sr (lv (M7 rfl) (nq (i9 (d8 (c9 (c9 ?_))))))
    cases oi ac
    cases ar _ rfl
    refine d8 (c9 ?_)
    cases oi aq
    refine c9 ?_
    cases oi J
    exact ey results74 ⟨ay, rfl, az.s⟩
   refine i6 (o0 (j6 (i7 (mv rfl (lv (s6 rfl rfl) (av rfl (d7 ?_)))))))
   cases oi ac
   exact qd ⟨_, rfl, ay, rfl, az, (x.trans bK), (l9 _)⟩
  refine q7 (d4 (d4 ?_))
  cases oi ab
  cases ar _ rfl
  refine j5 ?_
  cases oi aq
  exact H9 ⟨_, bb, rfl, rfl, aa.s, x⟩ trivial
 rintro _ cn ⟨cp, bM, rfl, rfl, bN, cq⟩
 have J := C8 J
 refine qr (lv (r_t rfl) (nq (i9 ?_)))
 cases oi J
 exact ey results74 ⟨bM, rfl, bN⟩

theorem c0D {q0 : q9} {q1 : z2} {r : Bool} (hS : SH w K [] w K []) (o : b7 B8 K A a b q0.Stops) (q : b7 I4 K B c d q0.Syns) (s : b7 E1 K C f i q1.Docs) (x : b7 z6 K D k l q1.Entries) (hm : a4u F q0 q1 = some r) :
  Calls prog 27 #[.agg #[V3 A a b, V3 B c d], .agg #[V3 C f i, V3 D k l]] w (R_b w K r) := by
 rw [a4u] at hm
 refine ci func27 rfl ntmps27 (sr (bx rfl hS fun y V G => ?_))
 have H : SH _ _ _ _ _ [q8 y [V3 A a b, V3 B c d] 26] := G
 refine bx rfl H fun I W J => ?_
 have m : SH _ _ _ _ _ [q8 I [V3 C f i, V3 D k l] 46, _] := J
 refine lv (M7 rfl) (nr (lv (l3 (ds := [V3 A a b, V3 B c d]) E6 rfl m1 m rfl rfl) (lv (l3 (ds := [V3 C f i, V3 D k l]) G0 rfl m0 m rfl rfl) ?_)))
 obtain ⟨X, O, R⟩ := ob hm
 refine lk b97 (b04 F m.enter0 o q s x O) ?_
 rintro Y aa ⟨S, rfl, T⟩
 have U := (m.c0 T).t2
 refine av rfl (nq (i9 ?_))
 cases oi R
 exact ey results27 ⟨S, rfl, U.s⟩
end Go.Proofs.YtmkhlppjphodfaaGreatDoor
