/-
 Walks of the functions. Printed by gen.py.
-/
import Derived.Test.YtmkhlppjphodfaaGreatDoorFacts
set_option linter.unusedVariables false
set_option linter.unusedSectionVars false
set_option maxRecDepth 100000
namespace Go.Proofs.YtmkhlppjphodfaaGreatDoor
set_option maxHeartbeats 4000000
open Go Go.Fk Go.RowKit Tryz
variable (F : Nat) {w : World} {K : C5} {Z : List Nat} {g1 g2 g3 : Nat} {A B C D G H I J O R S T : Option Addr} {a b c d f i k l m n o p q s v x y aa ab ac ad ae af ag : Nat}
variable [dr : Dr]

theorem a63 {q0 : s7} {r : s7} (hS : SH w K [] w K []) (G : d9 q0.Id) (H : b7 F3 K A a b q0.Fields) (I : b7 G5 K B c d q0.Nums) (hm : Y7 F q0 = some r) :
  Calls prog 115 #[.agg #[V6 q0.Id, V3 A a b, V3 B c d]] w fun e w' => ∃ a_2 n_3 c_4 a_6 n_7 c_8 K', e = .returned (.agg #[V6 r.Id, V3 a_2 n_3 c_4, V3 a_6 n_7 c_8]) ∧ SH w K [] w' K' [tail (V3 a_2 n_3 c_4) 158 2, tail (V3 a_6 n_7 c_8) 197 2] ∧ d9 r.Id ∧ b7 F3 K' a_2 n_3 c_4 r.Fields ∧ b7 G5 K' a_6 n_7 c_8 r.Nums := by
 rw [Y7] at hm
 refine ci func115 rfl ntmps115 (sr (bx rfl hS fun aC aX aE => ?_))
 have aF : SH _ _ _ _ _ [q8 aC [V6 q0.Id, V3 A a b, V3 B c d] 54] := aE
 refine al C0 aF fun aG aY aH => ?_
 have aI : SH _ _ _ _ _ [q8 aG [V6 0, V3 none 0 0, V3 none 0 0] 54, _] := aH
 refine ns ?_
 obtain ⟨aZ, J, aJ⟩ := ob hm
 obtain ⟨ba, O, R⟩ := ob aJ
 have v := aI.drew
 refine j_0 (fun w' => E7 K w' ∧ y7 aC [V6 q0.Id, V3 A a b, V3 B c d] w') 12 [] mixed ⟨v.hasK kr, v.hasObj m1⟩ (jv 0 rfl (b8 X7 rfl) (jh 1 rfl (fun _ h => y2 D8 rfl rfl h.2) (jv 3 rfl (b8 W0 rfl) (jh 4 rfl (fun _ h => y2 a3Y rfl rfl h.2) (jv 7 rfl (b8 X8 rfl) (jh 8 rfl (fun _ h => y2 a4e rfl rfl h.2) (j2 2 6 rfl rfl ?_ ?_)))))))
 ·refine b0 F3 underlying51 M9 v fun bb bc bd f aD x => (W2 ⟨x.hasK f, x.hasObj m2⟩ (j2 5 6 rfl rfl ?_ ?_))
  ·refine lp underlying51 M9 aD (H.mono f) J x fun S T U be bf m aK V => (W2 ⟨V.hasK (f.trans m), V.hasObj m2⟩ (j1 6 rfl (b0 G5 underlying52 P9 V fun bg bh bi o aL W => (W2 ⟨W.hasK ((f.trans m).trans o), W.hasObj m3⟩ (j1 9 rfl (lp underlying52 P9 aL (I.mono ((f.trans m).trans o)) O W fun X Y aa bj aM ab aN ac => (W2 ⟨ac.hasK (((f.trans m).trans o).trans ab), ac.hasObj m3⟩ (jv 10 rfl (A5 (cs := #[V6 q0.Id, V3 S T U, V3 X Y aa]) a93 C0 rfl (by kernel_rfl)) (j1 11 rfl ?_)))))))))
   refine lw [V6 q0.Id, V3 S T U, V3 X Y aa] C0 ac.f2 fun bk y => (W2 ⟨y.hasK (((f.trans m).trans o).trans ab), y.hasObj m3⟩ (jd (j6 (i9 ?_))))
   cases oi R
   exact ez results115 C0 y m0 ⟨S, T, U, X, Y, aa, aM, rfl, y.f1.f2.s, G, (aK.mono (o.trans ab)), aN⟩
  refine b0 G5 underlying52 P9 x fun bl bm bn i aO ad => (W2 ⟨ad.hasK (f.trans i), ad.hasObj m3⟩ (j1 5 rfl (lp underlying51 M9 (aD.mono i) (H.mono (f.trans i)) J ad.f1 fun ae af ag bo bp q aP ah => (W2 ⟨ah.hasK ((f.trans i).trans q), ah.hasObj m3⟩ (j1 9 rfl (lp underlying52 P9 (aO.mono q) (I.mono ((f.trans i).trans q)) O ah.f1 fun ai aj ak bq aQ am aR an => (W2 ⟨an.hasK (((f.trans i).trans q).trans am), an.hasObj m3⟩ (jv 10 rfl (A5 (cs := #[V6 q0.Id, V3 ae af ag, V3 ai aj ak]) a93 C0 rfl (by kernel_rfl)) (j1 11 rfl ?_)))))))))
  refine lw [V6 q0.Id, V3 ae af ag, V3 ai aj ak] C0 an.f2 fun br C => (W2 ⟨C.hasK (((f.trans i).trans q).trans am), C.hasObj m3⟩ (jd (j6 (i9 ?_))))
  cases oi R
  exact ez results115 C0 C m0 ⟨ae, af, ag, ai, aj, ak, aQ, rfl, C.f1.f2.s, G, (aP.mono am), aR⟩
 refine b0 G5 underlying52 P9 v fun bs bu bv k aS ao => (W2 ⟨ao.hasK k, ao.hasObj m2⟩ (j1 2 rfl (b0 F3 underlying51 M9 ao fun bz bA bB l aT ap => (W2 ⟨ap.hasK (k.trans l), ap.hasObj m3⟩ (j1 5 rfl (lp underlying51 M9 aT (H.mono (k.trans l)) J ap fun aq ar au bC bD s aU aw => (W2 ⟨aw.hasK ((k.trans l).trans s), aw.hasObj m3⟩ (j1 9 rfl (lp underlying52 P9 (aS.mono (l.trans s)) (I.mono ((k.trans l).trans s)) O aw.f1 fun ax ay az bE aV aA aW aB => ?_)))))))))
 refine W2 ⟨aB.hasK (((k.trans l).trans s).trans aA), aB.hasObj m3⟩ (jv 10 rfl (A5 (cs := #[V6 q0.Id, V3 aq ar au, V3 ax ay az]) a93 C0 rfl (by kernel_rfl)) (j1 11 rfl (lw [V6 q0.Id, V3 aq ar au, V3 ax ay az] C0 aB.f2 fun bF D => (W2 ⟨D.hasK (((k.trans l).trans s).trans aA), D.hasObj m3⟩ (jd (j6 (i9 ?_)))))))
 cases oi R
 exact ez results115 C0 D m0 ⟨aq, ar, au, ax, ay, az, aV, rfl, D.f1.f2.s, G, (aU.mono aA), aW⟩

theorem a6p {q0 : List s7} {r : (List s7)} (hS : SH w K [] w K []) (x : b7 E1 K A a b q0) (hm : U7 F q0 = some r) :
  Calls prog 65 #[V3 A a b] w fun e w' => ∃ a_1 n_2 c_3 K', e = .returned (V3 a_1 n_2 c_3) ∧ SH w K [] w' K' [tail (V3 a_1 n_2 c_3) 54 3] ∧ b7 E1 K' a_1 n_2 c_3 r := by
 rw [U7] at hm
 refine ci func65 rfl ntmps65 (sr (lv (r_n rfl) (nr (b0 E1 underlying35 C0 hS fun a5 w6 y B ag ah => (av rfl (P6 (mv rfl (lv (k9 underlying35 rfl (x.mono B)) (lv (r_m rfl) ?_)))))))))
 refine nq ?_
 obtain ⟨ai, aj, ak⟩ := ob hm
 refine j4 (fun E' w' => ∃ k l m o, E' = [(3, V3 k l m)] ∧ SH w K [] w' o [tail (V3 k l m) 54 3] ∧ H6 y o ∧ b7 E1 o k l m ai) ?_ ?_
 ·refine i5 ?_
  obtain ⟨bb, am, an⟩ := ob aj
  refine qF (fun (ad : Nat) (C : (List s7)) E' w' => ∃ c d f i, E' = [(3, V3 c d f), (7, V3 A a b), (8, V6 (q0.length : Int)), (9, V6 ((ad : Nat) : Int))] ∧ SH w K [] w' i [tail (V3 c d f) 54 3] ∧ H6 y i ∧ b7 E1 i c d f C) am ⟨a5, 0, 0, y, rfl, ah, kr, ag⟩ ?_ ?_
  ·rintro ad C _ ao bc hi36 ap ⟨c, d, f, i, rfl, q, s, D⟩
   refine sr (lv (n8 rfl rfl) (ns (A3 rfl (c7 (by omega)) (i6 (j6 (k8 (i5 (sr ?_))))))))
   obtain ⟨G, aq, ar⟩ := ob ap
   refine li underlying35 C0 (x.mono (B.trans s)) aq fun au aw bd ax ay => ?_
   obtain ⟨H, I, J, O, R, S, rfl, az, aA, aB⟩ := ax
   have aC : D0 _ au aw [V6 G.Id, V3 H I J, V3 O R S] := ay
   refine lv (D4 C0 rfl q aC rfl) (al C0 q fun aD be aE => ?_)
   have aF : SH _ _ _ _ _ [q8 aD [V6 0, V3 none 0 0, V3 none 0 0] 54, _] := aE
   refine lw [V6 G.Id, V3 H I J, V3 O R S] C0 aF fun bf T => (nq (i7 (mv rfl (lv (l3 (ds := [V6 G.Id, V3 H I J, V3 O R S]) C0 rfl m0 T rfl rfl) ?_))))
   obtain ⟨U, aG, aH⟩ := ob ar
   refine lk b8H (a63 F T.enter0 az aA aB aG) ?_
   rintro bg bh ⟨V, W, X, Y, aa, ab, bi, rfl, ac, aI, aJ, aK⟩
   have aL := (T.c0 ac).t4
   refine lb E1 (.agg #[V6 U.Id, V3 V W X, V3 Y aa ab]) [V6 U.Id, V3 V W X, V3 Y aa ab] U underlying35 C0 ⟨V, W, X, Y, aa, ab, rfl, aI, aJ, aK⟩ aL fun bj bk bl ae aM aN => ?_
   obtain ⟨bm, aO, aP⟩ := ob aH
   refine lp underlying35 C0 (D.mono (ac.le.trans ae)) aM aO aN.f4 fun aQ aR aS bn aT aU aV aW => (av rfl (nb (qg (lv (y3 rfl rfl (A0 hi36 (b7.max (x.mono B)))) (mv rfl (d7 ?_))))))
   cases oi aP
   exact qd ⟨aQ, aR, aS, aT, rfl, aW.s, (((s.trans ac.le).trans ae).trans aU), aV⟩
  rintro C _ ao aX ⟨c, d, f, i, rfl, q, s, D⟩
  subst aX
  refine sr (lv (n8 rfl rfl) (ns (A2 rfl (c6 (by omega)) (q7 (d4 (d4 (j5 ?_)))))))
  cases oi an
  exact qd ⟨c, d, f, i, rfl, q, s, D⟩
 rintro _ bo ⟨k, l, m, o, rfl, aY, bp, aZ⟩
 refine qr (mv rfl (av rfl (nq (i9 ?_))))
 cases oi ak
 exact ey results65 ⟨k, l, m, o, rfl, aY, aZ⟩

theorem a9b {q0 : q9} {q1 : List y9} {q2 : Int} {r : (Option Q0)} (hS : SH w K [] w K []) (ch : b7 B8 K A a b q0.Stops) (J : b7 I4 K B c d q0.Syns) (ac : b7 J7 K C f i q1) (cj : d9 q2) (hm : a09 F q0 q1 q2 = some r) :
  Calls prog 126 #[.agg #[V3 A a b, V3 B c d], V3 C f i, V6 q2] w fun e w' => ∃ v_1 K', e = .returned (v_1) ∧ SH w K [] w' K' [] ∧ a5s I4 K' v_1 r := by
 rw [a09] at hm
 refine ci func126 rfl ntmps126 (sr (bx rfl hS fun s ck ax => ?_))
 have ao : SH _ _ _ _ _ [q8 s [V3 A a b, V3 B c d] 26] := ax
 refine lv (r9 (v := .pointer none) rfl) (nr (lv (r9 (v := .pointer none) rfl) (P6 (fl a1x rfl a5V m0 ao rfl (lv (k9 underlying24 rfl J) (lv (r_m rfl) (nq ?_)))))))
 obtain ⟨ay, az, aA⟩ := ob hm
 refine j4 (fun E' w' => ∃ v25 O, E' = [(7, v25)] ∧ SH w K [] w' O [] ∧ H6 K O ∧ a5s I4 O v25 ay) ?_ ?_
 ·refine i5 ?_
  obtain ⟨cl, aB, aC⟩ := ob az
  refine qF (fun (R : Nat) (ad : (Option Q0)) E' w' => ∃ v36 G, E' = [(1, V3 C f i), (2, V6 q2), (3, pt s), (7, v36), (16, V6 (q0.Syns.length : Int)), (17, V6 ((R : Nat) : Int))] ∧ SH w K [] w' G [q8 s [V3 A a b, V3 B c d] 26] ∧ H6 K G ∧ a5s I4 G v36 ad) aB ⟨(.pointer none), K, rfl, ao, kr, (show a5s I4 _ _ none from rfl)⟩ ?_ ?_
  ·rintro R ad _ aD cm hi39 aE ⟨v36, G, rfl, U, x, hp37⟩
   refine sr (lv (n8 rfl rfl) (ns (A3 rfl (c7 (by omega)) (i6 (j6 (k8 (i5 (sr (mv rfl (av rfl (nr (fl a1x rfl a5V m0 U rfl ?_))))))))))))
   refine mv rfl ?_
   obtain ⟨ae, aF, aG⟩ := ob aE
   refine li underlying24 a3Z (J.mono x) aF fun H I cn aH aI => ?_
   obtain ⟨V, W, X, rfl, y, aJ⟩ := aH
   have Y : D0 _ H I [V3 V W X, sv ae.To] := aI
   refine av rfl (ns (k8 ?_))
   obtain ⟨aK, aL, aM⟩ := ob aG
   refine j4 (IV w K [] G [(1, V3 C f i), (2, V6 q2), (3, pt s), (7, v36), (9, .pointer (some ⟨H, I, none⟩)), (16, V6 (q0.Syns.length : Int)), (17, V6 ((R : Nat) : Int)), (50, .bool aK)] [q8 s [V3 A a b, V3 B c d] 26]) ?_ ?_
   ·refine C2 mixed (by kernel_rfl) U (km rfl (kv (v8 rfl) (kv (b8 a0K rfl) (kh (z8 O5 rfl (Y 0 _ rfl)) (kv (k9 underlying23 rfl y) (km rfl (kv (k9 underlying114 rfl (ac.mono x)) (km rfl (kv (F2 rfl rfl) ?_)))))))))
    refine kv (E5 rfl rfl) (km rfl (bt aL (fun o af => ?_) (fun o af => ?_)))
    ·refine kn o (kn o (kn o ?_))
     iterate 11 refine ku ?_
     refine kn o (kv (K5 rfl o rfl) (z7 ?_))
     rintro cp ⟨aN, aO, aP⟩
     cases oi af
     exact qd ⟨aN, rfl, aO, aP⟩
    refine kg o (d6 rfl) (kg o (b20 underlying170 rfl rfl hp37) (kg o (d6 rfl) (bt af (fun k ag => ?_) (fun k ag => ?_))))
    ·refine kg k (d6 rfl) (kg k (v8 rfl) (kg k (b8 a0K rfl) (kgh k (z8 O5 rfl (Y 0 _ rfl)) (kg k (k9 underlying23 rfl y) (kg k (d6 rfl) ?_)))))
     obtain ⟨aQ, aR, aS⟩ := ob ag
     obtain ⟨aT, aU, cq, rfl, aV, aW⟩ := a5s.get hp37 aR
     obtain ⟨aX, aY, aZ, rfl, ba, cr⟩ := aV
     have bb : D0 _ aT aU [V3 aX aY aZ, sv aQ.To] := aW
     refine kg k (v8 rfl) (kg k (b8 a0K rfl) (kgh k (z8 O5 rfl (bb 0 _ rfl)) (kg k (k9 underlying23 rfl ba) (kg k (R9 rfl rfl) (kg o (j3 rfl k rfl) (kv (j9 rfl o rfl) (z7 ?_)))))))
     rintro cs ⟨bc, bd, be⟩
     cases oi aS
     exact qd ⟨bc, rfl, bd, be⟩
    iterate 11 refine kn k ?_
    refine kg o (F7 rfl k rfl) (kv (j9 rfl o rfl) (z7 ?_))
    rintro ct ⟨bf, bg, bh⟩
    cases oi ag
    exact qd ⟨bf, rfl, bg, bh⟩
   rintro _ cu ⟨aa, rfl, ah, l⟩
   refine j6 (B5 aM rfl (fun bi ai => ?_) (fun bi ai => ?_))
   ·refine q7 (d4 (j5 (qg (lv (y3 rfl rfl (A0 hi39 (b7.max J))) (mv rfl (d7 ?_))))))
    cases oi ai
    exact qd ⟨v36, aa, rfl, ah, (x.trans l), (a5s.mono l hp37)⟩
   refine i6 (qr (lv (r_t rfl) (P6 (mv rfl (lv (v8 rfl) (fa a0K rfl (lv (u0 O5 rfl ah ((D0.mono l Y) 0 _ rfl)) (lv (k9 underlying23 rfl (y.mono l)) (lv (r_m rfl) ?_)))))))))
   refine nq ?_
   obtain ⟨bj, bk, bl⟩ := ob ai
   refine j4 (IV w K [] aa [(1, V3 C f i), (2, V6 q2), (3, pt s), (7, v36), (9, .pointer (some ⟨H, I, none⟩)), (10, .bool bj), (16, V6 (q0.Syns.length : Int)), (17, V6 ((R : Nat) : Int))] [q8 s [V3 A a b, V3 B c d] 26]) ?_ ?_
   ·refine i5 ?_
    obtain ⟨cv, bm, bn⟩ := ob bk
    refine qF (fun (ap : Nat) (aj : Bool) => IV w K [] aa [(1, V3 C f i), (2, V6 q2), (3, pt s), (7, v36), (9, .pointer (some ⟨H, I, none⟩)), (10, .bool aj), (16, V6 (q0.Syns.length : Int)), (17, V6 ((R : Nat) : Int)), (54, V3 V W X), (55, V6 (ae.From.length : Int)), (56, V6 ((ap : Nat) : Int))] [q8 s [V3 A a b, V3 B c d] 26]) bm ⟨aa, rfl, ah, kr⟩ ?_ ?_
    ·rintro ap aj _ bo cw hi112 bp ⟨aq, rfl, S, D⟩
     refine sr (lv (n8 rfl rfl) (ns (A3 rfl (c7 (by omega)) (i6 (j6 (k8 (i5 (sr (mv rfl ?_)))))))))
     obtain ⟨bq, br, bs⟩ := ob bp
     refine li underlying23 D9 (y.mono (l.trans D)) br fun bu bv cx bz bA => ?_
     obtain ⟨rfl, cy⟩ := bz
     have bB : D0 _ bu bv [sv bq] := bA
     refine lv (u0 D9 rfl S (bB 0 _ rfl)) (av rfl (av rfl (nr (mv rfl (mv rfl (mv rfl (lv (s6 rfl rfl) ?_)))))))
     obtain ⟨ab, bC, bD⟩ := ob bs
     refine li underlying114 F9 (ac.mono ((x.trans l).trans D)) bC fun bE bF cz bG bH => ?_
     obtain ⟨rfl, cA, cB⟩ := bG
     have bI : D0 _ bE bF [sv ab.Text, V6 ab.At] := bH
     refine lv (D4 F9 rfl S bI rfl) (al F9 S fun bJ cC bK => ?_)
     have bL : SH _ _ _ _ _ [q8 bJ [sv [], V6 0] 117, _] := bK
     refine lw [sv ab.Text, V6 ab.At] F9 bL fun cD bM => (nq (C2 mixed (by kernel_rfl) bM (km rfl (km rfl (bt bD (fun q ak => ?_) (fun q ak => ?_))))))
     ·refine kg q (b8 a1q rfl) (kgh q (u2 D9 rfl m0 rfl) (kg q (d6 rfl) (kg q (H0 rfl rfl) (kv (j3 rfl q rfl) (km rfl (bt ak (fun m am => ?_) (fun m am => ?_)))))))
      ·refine kg m (b8 a1r rfl) (kgh m (u2 D8 rfl m0 rfl) (kg m (d6 rfl) (kg m (d6 rfl) ?_)))
       obtain ⟨ar, bN, bO⟩ := ob am
       refine B4 (t := J7) (wg rfl rfl m) rfl underlying114 F9 rfl rfl (ac.mono ((x.trans l).trans D)) bN fun bP bQ cE bR bS => ?_
       obtain ⟨rfl, cF, cG⟩ := bR
       have bT : D0 _ bP bQ [sv ar.Text, V6 ar.At] := bS
       refine kg m (b8 a1r rfl) (kgh m (z8 D8 rfl (bT 1 _ rfl)) (kg m (d6 rfl) (kg m (s6 rfl rfl) (kg m (u3 rfl rfl) (kv (j3 rfl m rfl) (kv (r9 rfl) (z7 ?_)))))))
       rintro cH ⟨bU, bV, bW⟩
       refine o0 (qg (lv (y3 rfl rfl (A0 hi112 (b7.max (y.mono l)))) (mv rfl (d7 ?_))))
       cases oi bO
       exact qd ⟨bU, rfl, bV.s, (D.trans bW)⟩
      iterate 10 refine kn m ?_
      refine kv (F7 rfl m rfl) (kv (r9 rfl) (z7 ?_))
      rintro cI ⟨bX, bY, bZ⟩
      refine o0 (qg (lv (y3 rfl rfl (A0 hi112 (b7.max (y.mono l)))) (mv rfl (d7 ?_))))
      cases oi am
      exact qd ⟨bX, rfl, bY.s, (D.trans bZ)⟩
     refine kn q (kn q (kn q (kn q (kv (F7 rfl q rfl) (km rfl ?_)))))
     iterate 10 refine qv rfl rfl rfl rfl ?_
     refine kv (F7 rfl rfl rfl) (kv (r9 rfl) (z7 ?_))
     rintro cJ ⟨ca, cb, cc⟩
     refine o0 (qg (lv (y3 rfl rfl (A0 hi112 (b7.max (y.mono l)))) (mv rfl (d7 ?_))))
     cases oi ak
     exact qd ⟨ca, rfl, cb.s, (D.trans cc)⟩
    rintro aj _ bo cd ⟨aq, rfl, S, D⟩
    subst cd
    refine sr (lv (n8 rfl rfl) (ns (A2 rfl (c6 (by omega)) (q7 (d4 (d4 (j5 ?_)))))))
    cases oi bn
    exact qd ⟨aq, rfl, S, D⟩
   rintro _ cK ⟨au, rfl, aw, T⟩
   refine qr (mv rfl (nq (B5 bl rfl (fun ce an => ?_) (fun ce an => ?_))))
   ·refine i7 (mv rfl (av rfl (nb (qg (lv (y3 rfl rfl (A0 hi39 (b7.max J))) (mv rfl (d7 ?_)))))))
    cases oi an
    exact qd ⟨(.pointer (some ⟨H, I, none⟩)), au, rfl, aw, ((x.trans l).trans T), ⟨H, I, .agg #[V3 V W X, sv ae.To], rfl, ⟨V, W, X, rfl, (y.mono (l.trans T)), aJ⟩, (D0.mono (l.trans T) Y)⟩⟩
   refine i6 (o0 (qg (lv (y3 rfl rfl (A0 hi39 (b7.max J))) (mv rfl (d7 ?_)))))
   cases oi an
   exact qd ⟨v36, au, rfl, aw, ((x.trans l).trans T), (a5s.mono (l.trans T) hp37)⟩
  rintro ad _ aD cf ⟨v36, G, rfl, U, x, hp37⟩
  subst cf
  refine sr (lv (n8 rfl rfl) (ns (A2 rfl (c6 (by omega)) (q7 (d4 (d4 (j5 ?_)))))))
  cases oi aC
  exact qd ⟨v36, G, rfl, U.s, x, hp37⟩
 rintro _ cL ⟨v25, O, rfl, cg, cM, hp26⟩
 refine qr (mv rfl (av rfl (nq (i9 ?_))))
 cases oi aA
 exact ey results126 ⟨v25, O, rfl, cg, hp26⟩

theorem a2M {q0 : N3} {q1 : Int} {r : s7 × Bool} (hS : SH w K Z w K [q8 g1 [V3 A a b, V3 B c d, V3 C f i, V3 D k l] 123]) (aU : b7 B8 K A a b q0.c_.Stops) (aV : b7 I4 K B c d q0.c_.Syns) (ad : b7 E1 K C f i q0.s_.Docs) (aW : b7 z6 K D k l q0.s_.Entries) (aX : d9 q1) (hm : L5 F q0 q1 = some r) :
  Calls prog 76 #[.pointer (some ⟨g1, 2, none⟩), V6 q1] w fun e w' => ∃ a_2 n_3 c_4 a_6 n_7 c_8 K', e = .returned (.tuple #[.agg #[V6 r.1.Id, V3 a_2 n_3 c_4, V3 a_6 n_7 c_8], .bool r.2]) ∧ SH w K Z w' K' [q8 g1 [V3 A a b, V3 B c d, V3 C f i, V3 D k l] 123] ∧ d9 r.1.Id ∧ b7 F3 K' a_2 n_3 c_4 r.1.Fields ∧ b7 G5 K' a_6 n_7 c_8 r.1.Nums := by
 rw [L5] at hm
 refine ci func76 rfl ntmps76 (sr (al C0 hS fun W aY ax => ?_))
 have ap : SH _ _ _ _ _ [q8 W [V6 0, V3 none 0 0, V3 none 0 0] 54, _] := ax
 refine lv (M7 rfl) (P6 (mv rfl (lv (v8 rfl) (fl a03 rfl a5w m1 ap rfl (lv (k9 underlying35 rfl ad) (lv (r_m rfl) (nq ?_)))))))
 obtain ⟨ay, az, Y⟩ := ob hm
 refine j4 (fun E' w' => ∃ o ae af ag ah ai aj q, ay = .inl o ∧ E' = [(0, .pointer (some ⟨g1, 2, none⟩)), (4, pt W)] ∧ SH w K Z w' q [q8 g1 [V3 A a b, V3 B c d, V3 C f i, V3 D k l] 123, q8 W [V6 o.Id, V3 ae af ag, V3 ah ai aj] 54] ∧ H6 K q ∧ d9 o.Id ∧ b7 F3 q ae af ag o.Fields ∧ b7 G5 q ah ai aj o.Nums) ?_ ?_
 ·refine i5 ?_
  obtain ⟨aZ, aA, aq⟩ := ob az
  refine qf (fun (ar : Nat) (s : s7) E' w' => ∃ x y G H I J m, E' = [(0, .pointer (some ⟨g1, 2, none⟩)), (1, V6 q1), (4, pt W), (11, V3 C f i), (12, V6 (q0.s_.Docs.length : Int)), (13, V6 ((ar : Nat) : Int))] ∧ SH w K Z w' m [q8 g1 [V3 A a b, V3 B c d, V3 C f i, V3 D k l] 123, q8 W [V6 s.Id, V3 x y G, V3 H I J] 54] ∧ H6 K m ∧ d9 s.Id ∧ b7 F3 m x y G s.Fields ∧ b7 G5 m H I J s.Nums) aA ⟨none, 0, 0, none, 0, 0, K, rfl, ap.f1, kr, I0, (b7.nil _ _), (b7.nil _ _)⟩ ?_ ?_
  ·rintro ar s _ aB ba hi60 aC aD ⟨x, y, G, H, I, J, m, rfl, aa, ab, ak, am, an⟩
   refine sr (lv (n8 rfl rfl) (ns (A3 rfl (c7 (by omega)) (i6 (j6 (k8 (i5 (sr ?_))))))))
   obtain ⟨X, aE, aF⟩ := ob aC
   refine li underlying35 C0 (ad.mono ab) aE fun aG aH bb aI aJ => ?_
   obtain ⟨O, R, S, T, U, V, rfl, aK, aL, aM⟩ := aI
   have aN : D0 _ aG aH [V6 X.Id, V3 O R S, V3 T U V] := aJ
   refine lv (D4 C0 rfl aa aN rfl) (al C0 aa fun aO bc aP => ?_)
   have aQ : SH _ _ _ _ _ [q8 aO [V6 0, V3 none 0 0, V3 none 0 0] 54, _, _] := aP
   refine lw [V6 X.Id, V3 O R S, V3 T U V] C0 aQ fun bd ac => (nr (fl X7 rfl D8 m0 ac rfl (mv rfl (lv (u3 rfl rfl) (nq (B5 aF rfl (fun aR ao => ?_) (fun aR ao => ?_)))))))
   ·refine sr (lv (l3 (ds := [V6 X.Id, V3 O R S, V3 T U V]) C0 rfl m0 ac rfl rfl) (lw [V6 X.Id, V3 O R S, V3 T U V] C0 ac.f2 fun be au => (lv (r_t rfl) (nq (i9 (d8 (c9 (c9 ?_))))))))
    cases oi ao
    cases aD _ rfl
    refine d8 (c9 ?_)
    cases oi aq
    refine c9 ?_
    cases oi Y
    exact R8 (vs := [_, _]) results76 ⟨⟨_, _, rfl, A8 C0 (cs := [V6 X.Id, V3 O R S, V3 T U V]) (fun j c e => by rw [Nat.zero_add, au.mem_obj m0]; exact e) (.inl ⟨rfl, rfl, rfl⟩)⟩, rfl, trivial⟩ ⟨O, R, S, T, U, V, m, rfl, au.s, aK, aL, aM⟩
   refine i6 (o0 (qg (lv (y3 rfl rfl (A0 hi60 (b7.max ad))) (mv rfl (d7 ?_)))))
   cases oi ao
   exact qd ⟨_, rfl, x, y, G, H, I, J, m, rfl, ac.s, ab, ak, am, an⟩
  rintro s _ aB aS ⟨x, y, G, H, I, J, m, rfl, aa, ab, ak, am, an⟩
  subst aS
  refine sr (lv (n8 rfl rfl) (ns (A2 rfl (c6 (by omega)) (q7 (d4 (d4 (j5 ?_)))))))
  cases oi aq
  exact qd ⟨_, x, y, G, H, I, J, m, rfl, rfl, aa, ab, ak, am, an⟩
 rintro _ bf ⟨o, ae, af, ag, ah, ai, aj, q, rfl, rfl, aT, bg, bh, bi, bj⟩
 have Y := C8 Y
 refine qr (lv (A5 (cs := #[V6 0, V3 none 0 0, V3 none 0 0]) a93 C0 rfl (by kernel_rfl)) (lw [V6 0, V3 none 0 0, V3 none 0 0] C0 aT.f1 fun bk aw => (lv (M7 rfl) (nq (i9 ?_)))))
 cases oi Y
 exact R8 (vs := [_, _]) results76 ⟨⟨_, _, rfl, A8 C0 (cs := [V6 0, V3 none 0 0, V3 none 0 0]) (fun j c e => by rw [Nat.zero_add, aw.mem_obj m0]; exact e) (.inl ⟨rfl, rfl, rfl⟩)⟩, rfl, trivial⟩ ⟨none, 0, 0, none, 0, 0, q, rfl, aw.s, I0, (b7.nil _ _), (b7.nil _ _)⟩

theorem W9 {q0 : N3} {q1 : k6} {r : (List k6)} (hS : SH w K Z w K [q8 g1 [V3 A a b, V3 B c d, V3 C f i, V3 D k l] 123]) (aS : b7 B8 K A a b q0.c_.Stops) (aT : b7 I4 K B c d q0.c_.Syns) (aU : b7 E1 K C f i q0.s_.Docs) (O : b7 z6 K D k l q0.s_.Entries) (aV : q1.length ≤ maxLen) (hm : E8 F q0 q1 = some r) :
  Calls prog 131 #[.pointer (some ⟨g1, 2, none⟩), sv q1] w fun e w' => ∃ a_1 n_2 c_3 K', e = .returned (V3 a_1 n_2 c_3) ∧ SH w K Z w' K' [tail (V3 a_1 n_2 c_3) 9 1, q8 g1 [V3 A a b, V3 B c d, V3 C f i, V3 D k l] 123] ∧ b7 B8 K' a_1 n_2 c_3 r := by
 rw [E8] at hm
 refine ci func131 rfl ntmps131 (sr (lv (r_n rfl) (nr (b0 B8 underlying23 D9 hS fun af aW V R ag Y => (av rfl (P6 (mv rfl (lv (v8 rfl) (fl G3 rfl W8 m1 Y rfl ?_)))))))))
 refine lv (k9 underlying44 rfl (O.mono R)) (lv (r_m rfl) (nq ?_))
 obtain ⟨ah, ai, aj⟩ := ob hm
 refine j4 (fun E' w' => ∃ y G H I, E' = [(0, .pointer (some ⟨g1, 2, none⟩)), (5, V3 y G H)] ∧ SH w K Z w' I [q8 g1 [V3 A a b, V3 B c d, V3 C f i, V3 D k l] 123, tail (V3 y G H) 9 1] ∧ H6 V I ∧ b7 B8 I y G H ah) ?_ ?_
 ·refine i5 ?_
  obtain ⟨aX, ak, am⟩ := ob ai
  refine qF (fun (aa : Nat) (W : (List k6)) E' w' => ∃ m o q s, E' = [(0, .pointer (some ⟨g1, 2, none⟩)), (1, sv q1), (5, V3 m o q), (12, V3 D k l), (13, V6 (q0.s_.Entries.length : Int)), (14, V6 ((aa : Nat) : Int))] ∧ SH w K Z w' s [q8 g1 [V3 A a b, V3 B c d, V3 C f i, V3 D k l] 123, tail (V3 m o q) 9 1] ∧ H6 V s ∧ b7 B8 s m o q W) ak ⟨af, 0, 0, V, rfl, Y.f1, kr, ag⟩ ?_ ?_
  ·rintro aa W _ an aY hi51 ao ⟨m, o, q, s, rfl, S, J, T⟩
   refine sr (lv (n8 rfl rfl) (ns (A3 rfl (c7 (by omega)) (i6 (j6 (k8 (i5 (sr ?_))))))))
   obtain ⟨x, ap, aq⟩ := ob ao
   refine li underlying44 E3 (O.mono (R.trans J)) ap fun ar au aZ aw ax => ?_
   obtain ⟨ab, ac, ad, rfl, ba, ay, bb⟩ := aw
   have az : D0 _ ar au [sv x.Field, sv x.Term, V3 ab ac ad] := ax
   refine lv (D4 E3 rfl S az rfl) (al E3 S fun aA bc aB => ?_)
   have aC : SH _ _ _ _ _ [q8 aA [sv [], sv [], V3 none 0 0] 112, _, _] := aB
   refine lw [sv x.Field, sv x.Term, V3 ab ac ad] E3 aC fun bd U => (nr (fl a0l rfl D9 m0 U rfl (mv rfl (lv (H0 rfl rfl) (nq (B5 aq rfl (fun aD X => ?_) (fun aD X => ?_)))))))
   ·refine i7 (mv rfl (fl X5 rfl D9 m0 U rfl (lb B8 (sv x.Term) [sv x.Term] x.Term underlying23 D9 ⟨rfl, ay⟩ U fun be bf bg ae aE aF => ?_)))
    obtain ⟨bh, aG, aH⟩ := ob X
    refine lp underlying23 D9 (T.mono ae) aE aG aF.f3 fun aI aJ aK bi aL aM aN aO => (av rfl (nb (qg (lv (y3 rfl rfl (A0 hi51 (b7.max (O.mono R)))) (mv rfl (d7 ?_))))))
    cases oi aH
    exact qd ⟨aI, aJ, aK, aL, rfl, aO.f3.s, ((J.trans ae).trans aM), aN⟩
   refine i6 (o0 (qg (lv (y3 rfl rfl (A0 hi51 (b7.max (O.mono R)))) (mv rfl (d7 ?_)))))
   cases oi X
   exact qd ⟨m, o, q, s, rfl, U.s, J, T⟩
  rintro W _ an aP ⟨m, o, q, s, rfl, S, J, T⟩
  subst aP
  refine sr (lv (n8 rfl rfl) (ns (A2 rfl (c6 (by omega)) (q7 (d4 (d4 (j5 ?_)))))))
  cases oi am
  exact qd ⟨m, o, q, s, rfl, S, J, T⟩
 rintro _ bj ⟨y, G, H, I, rfl, aQ, bk, aR⟩
 refine qr (mv rfl (av rfl (nq (i9 ?_))))
 cases oi aj
 exact ey results131 ⟨y, G, H, I, rfl, aQ.f1, aR⟩

theorem a5E {q0 : List k6} {q1 : k6} {r : (List k6)} (hS : SH w K Z w K [tail (V3 A a b) 9 1]) (f : b7 B8 K A a b q0) (T : q1.length ≤ maxLen) (hm : S9 F q0 q1 = some r) :
  Calls prog 221 #[V3 A a b, sv q1] w fun e w' => ∃ a_1 n_2 c_3 K', e = .returned (V3 a_1 n_2 c_3) ∧ SH w K Z w' K' [tail (V3 a_1 n_2 c_3) 9 1] ∧ b7 B8 K' a_1 n_2 c_3 r := by
 rw [S9] at hm
 refine ci func221 rfl ntmps221 (sr (lv (r_n rfl) (nr (lv (L3 rfl) (ns ?_)))))
 obtain ⟨m, U, V⟩ := ob hm
 refine j4 (IW w K Z K [(0, V3 A a b), (1, sv q1), (5, V6 m)] [tail (V3 A a b) 9 1] (d9 m)) ?_ ?_
 ·refine i5 ?_
  obtain ⟨bg, W, X⟩ := ob U
  refine qw (fun (k : Int) => IW w K Z K [(0, V3 A a b), (1, sv q1), (5, V6 k)] [tail (V3 A a b) 9 1] (d9 k)) W ⟨K, rfl, hS, kr, I0⟩ ?_
  rintro k _ bh bi Y aa ⟨o, rfl, q, l, ab⟩
  refine k8 (k8 ?_)
  obtain ⟨ac, ad, ae⟩ := ob Y
  refine j4 (IV w K Z o [(0, V3 A a b), (1, sv q1), (5, V6 k), (18, .bool ac)] [tail (V3 A a b) 9 1]) ?_ ?_
  ·refine i7 (mv rfl (mv rfl (lv (k9 underlying23 rfl (f.mono l)) (lv (n8 rfl rfl) (mv rfl (bt ad (fun c s => ?_) (fun c s => ?_)))))))
   ·refine lg c (d6 rfl) (lg c (d6 rfl) ?_)
    obtain ⟨af, ag, ah⟩ := ob s
    refine H1 (t := B8) (wg rfl rfl c) rfl underlying23 D9 rfl rfl (f.mono l) ag fun ai aj bj ak al => ?_
    obtain ⟨rfl, bk⟩ := ak
    have am : D0 _ ai aj [sv af] := al
    refine lg c (u0 D9 rfl q (am 0 _ rfl)) (lg c (d6 rfl) (lg c (b3R rfl rfl) (lv (j3 rfl c rfl) (d7 ?_))))
    cases oi ah
    exact qd ⟨o, rfl, q, kr⟩
   iterate 6 refine lu c ?_
   refine lv (F7 rfl c rfl) (d7 ?_)
   cases oi s
   exact qd ⟨o, rfl, q, kr⟩
  rintro _ bl ⟨H, rfl, I, J⟩
  refine j6 (B5 ae rfl (fun an x => ?_) (fun an x => ?_))
  ·refine i6 (j6 (i5 (i7 (mv rfl (lv (s6 rfl rfl) (av rfl (nb ?_)))))))
   cases oi x
   exact qd ⟨_, rfl, H, rfl, I, (l.trans J), (l9 _)⟩
  refine q7 (d4 (d4 ?_))
  cases oi x
  cases aa _ rfl
  refine j5 ?_
  cases oi X
  exact qd ⟨H, rfl, I, (l.trans J), ab⟩
 rintro _ bm ⟨y, rfl, B, i, bn⟩
 refine qs (k8 ?_)
 obtain ⟨ao, ap, aq⟩ := ob V
 refine j4 (IV w K Z y [(0, V3 A a b), (1, sv q1), (5, V6 m), (32, .bool ao)] [tail (V3 A a b) 9 1]) ?_ ?_
 ·refine i7 (mv rfl (mv rfl (lv (k9 underlying23 rfl (f.mono i)) (lv (n8 rfl rfl) (mv rfl (bt ap (fun d C => ?_) (fun d C => ?_)))))))
  ·refine lg d (d6 rfl) (lg d (d6 rfl) ?_)
   obtain ⟨ar, au, aw⟩ := ob C
   refine H1 (t := B8) (wg rfl rfl d) rfl underlying23 D9 rfl rfl (f.mono i) au fun ax ay bo az aA => ?_
   obtain ⟨rfl, bp⟩ := az
   have aB : D0 _ ax ay [sv ar] := aA
   refine lg d (u0 D9 rfl B (aB 0 _ rfl)) (lg d (d6 rfl) (lg d (H0 rfl rfl) (lv (j3 rfl d rfl) (d7 ?_))))
   cases oi aw
   exact qd ⟨y, rfl, B, kr⟩
  iterate 6 refine lu d ?_
  refine lv (F7 rfl d rfl) (d7 ?_)
  cases oi C
  exact qd ⟨y, rfl, B, kr⟩
 rintro _ bq ⟨aC, rfl, O, D⟩
 refine j6 (B5 aq rfl (fun aD G => ?_) (fun aD G => ?_))
 ·refine sr (mv rfl (av rfl (nq (rr ?_))))
  cases oi G
  exact ey results221 ⟨A, a, b, aC, rfl, O, (f.mono (i.trans D))⟩
 refine i6 (qr (b0 B8 underlying23 D9 O fun br bs bu R aE aF => (mv rfl (mv rfl ?_))))
 obtain ⟨bv, aG, aH⟩ := ob G
 refine b1k (t := B8) wn rfl underlying23 D9 rfl rfl (f.mono ((i.trans D).trans R)) aG fun bx bz bA aI => ?_
 obtain ⟨bB, aJ, aK⟩ := ob aH
 refine lp underlying23 D9 aE aI aJ aF fun bC bD bE bF bG aL aM aN => (av rfl (nr (mv rfl (mv rfl (lb B8 (sv q1) [sv q1] q1 underlying23 D9 ⟨rfl, T⟩ aN fun bH bI bJ S aO aP => ?_)))))
 obtain ⟨bK, aQ, aR⟩ := ob aK
 refine lp underlying23 D9 (aM.mono S) aO aQ aP.f1 fun bL bM bN bO bP aS aT aU => (av rfl (nr (mv rfl (mv rfl (mv rfl ?_)))))
 obtain ⟨bQ, aV, aW⟩ := ob aR
 refine a6M (t := B8) wn rfl underlying23 D9 rfl rfl (b7.mono (((((i.trans D).trans R).trans aL).trans S).trans aS) f) aV fun bR bS bT aX => ?_
 obtain ⟨bU, aY, aZ⟩ := ob aW
 refine lp underlying23 D9 aT aX aY aU fun ba bb bc bV bd bW be bf => (av rfl (nq (i9 ?_)))
 cases oi aZ
 exact ey results221 ⟨ba, bb, bc, bd, rfl, bf.s, be⟩

theorem a8o {q0 : List s7} {r : (List k6)} (hS : SH w K [] w K []) (S : b7 E1 K A a b q0) (hm : a0G F q0 = some r) :
  Calls prog 173 #[V3 A a b] w fun e w' => ∃ a_1 n_2 c_3 K', e = .returned (V3 a_1 n_2 c_3) ∧ SH w K [] w' K' [tail (V3 a_1 n_2 c_3) 9 1] ∧ b7 B8 K' a_1 n_2 c_3 r := by
 rw [a0G] at hm
 refine ci func173 rfl ntmps173 (sr (lv (r_n rfl) (nr (b0 B8 underlying23 D9 hS fun a5 w6 T U ae af => (av rfl (P6 (lv (L3 rfl) (nq ?_))))))))
 obtain ⟨ag, ah, ai⟩ := ob hm
 refine j4 (fun E' w' => ∃ m o q s, E' = [(3, V3 m o q)] ∧ SH w K [] w' s [tail (V3 m o q) 9 1] ∧ H6 T s ∧ b7 B8 s m o q ag) ?_ ?_
 ·refine i5 ?_
  obtain ⟨bC, aj, ak⟩ := ob ah
  refine qw (fun (d : (List k6) × Int) E' w' => ∃ f i k c, E' = [(0, V3 A a b), (3, V3 f i k), (4, V6 d.2)] ∧ SH w K [] w' c [tail (V3 f i k) 9 1] ∧ H6 T c ∧ b7 B8 c f i k d.1 ∧ d9 d.2) aj ⟨a5, 0, 0, T, rfl, af, kr, ae, I0⟩ ?_
  rintro d _ bD bE al am ⟨f, i, k, c, rfl, X, x, Y, bF⟩
  refine k8 (sr (mv rfl (mv rfl (lv (k9 underlying35 rfl (S.mono (U.trans x))) (lv (n8 rfl rfl) (nq (B5 al rfl (fun an V => ?_) (fun an V => ?_))))))))
  ·refine i6 (qs (i5 (sr (lv (L3 rfl) (nq ?_)))))
   obtain ⟨ao, ap, aq⟩ := ob V
   refine j4 (fun E' w' => ∃ y B C D, E' = [(0, V3 A a b), (3, V3 y B C), (4, V6 d.2)] ∧ SH w K [] w' D [tail (V3 y B C) 9 1] ∧ H6 c D ∧ b7 B8 D y B C ao) ?_ ?_
   ·refine i5 ?_
    obtain ⟨bG, ar, au⟩ := ob ap
    refine qw (fun (O : (List k6) × Int) E' w' => ∃ G H I J, E' = [(0, V3 A a b), (3, V3 G H I), (4, V6 d.2), (5, V6 O.2)] ∧ SH w K [] w' J [tail (V3 G H I) 9 1] ∧ H6 c J ∧ b7 B8 J G H I O.1 ∧ d9 O.2) ar ⟨f, i, k, c, rfl, X, kr, Y, I0⟩ ?_
    rintro O _ bH bI aw ax ⟨G, H, I, J, rfl, l, R, aa, bJ⟩
    refine k8 (sr (mv rfl (mv rfl (mv rfl ?_))))
    obtain ⟨ay, az, aA⟩ := ob aw
    refine li underlying35 C0 (S.mono ((U.trans x).trans R)) az fun aB aC bK aD aE => ?_
    obtain ⟨aF, aG, aH, aI, aJ, aK, rfl, bL, aL, bM⟩ := aD
    have aM : D0 _ aB aC [V6 ay.Id, V3 aF aG aH, V3 aI aJ aK] := aE
    refine fa W0 rfl (lv (u0 a3Y rfl l (aM 1 _ rfl)) (lv (k9 underlying51 rfl aL) (lv (n8 rfl rfl) (nq (B5 aA rfl (fun aN W => ?_) (fun aN W => ?_))))))
    ·refine i6 (qs (i5 (i7 (mv rfl (mv rfl (mv rfl ?_))))))
     obtain ⟨aO, aP, aQ⟩ := ob W
     refine li underlying35 C0 (S.mono ((U.trans x).trans R)) aP fun aR aS bN aT aU => ?_
     obtain ⟨aV, aW, aX, aY, aZ, ba, rfl, bO, bb, bP⟩ := aT
     have bc : D0 _ aR aS [V6 aO.Id, V3 aV aW aX, V3 aY aZ ba] := aU
     refine fa W0 rfl (lv (u0 a3Y rfl l (bc 1 _ rfl)) (mv rfl ?_))
     obtain ⟨ab, bd, be⟩ := ob aQ
     refine li underlying51 M9 bb bd fun bf bg bQ bh bi => ?_
     obtain ⟨rfl, bj, bR⟩ := bh
     have bk : D0 _ bf bg [sv ab.Name, sv ab.Text] := bi
     refine fa a2l rfl (lv (u0 D9 rfl l (bk 0 _ rfl)) ?_)
     obtain ⟨bS, bl, bm⟩ := ob be
     refine lk b7z (a5E F l.e1 aa bj bl) ?_
     rintro bT bU ⟨bn, bo, bp, bq, rfl, ac, br⟩
     have bs := (l.c1 ac).t1
     refine av rfl (nb (j6 (i7 (mv rfl (lv (s6 rfl rfl) (av rfl (d7 ?_)))))))
     cases oi bm
     exact qd ⟨_, rfl, bn, bo, bp, bq, rfl, bs, (R.trans ac.le), br, (l9 _)⟩
    refine q7 (d4 (d4 ?_))
    cases oi W
    cases ax _ rfl
    refine j5 ?_
    cases oi au
    exact qd ⟨G, H, I, J, rfl, l, R, aa⟩
   rintro _ bV ⟨y, B, C, D, rfl, bu, bv, bx⟩
   refine o0 (j6 (i7 (mv rfl (lv (s6 rfl rfl) (av rfl (d7 ?_))))))
   cases oi aq
   exact qd ⟨_, rfl, y, B, C, D, rfl, bu, (x.trans bv), bx, (l9 _)⟩
  refine q7 (d4 (d4 ?_))
  cases oi V
  cases am _ rfl
  refine j5 ?_
  cases oi ak
  exact qd ⟨f, i, k, c, rfl, X, x, Y⟩
 rintro _ bW ⟨m, o, q, s, rfl, bz, bX, bA⟩
 refine qr (mv rfl (av rfl (nq (i9 ?_))))
 cases oi ai
 exact ey results173 ⟨m, o, q, s, rfl, bz, bA⟩

theorem a7a {q0 : List y9} {q1 : List k6} {r : Bool} (hS : SH w K [] w K []) (l : b7 J7 K A a b q0) (C : b7 B8 K B c d q1) (hm : S7 F q0 q1 = some r) :
  Calls prog 231 #[V3 A a b, V3 B c d] w (R_b w K r) := by
 rw [S7] at hm
 refine ci func231 rfl ntmps231 (sr (lv (M7 rfl) (P6 (lv (L3 rfl) (nq ?_)))))
 obtain ⟨U, V, m⟩ := ob hm
 refine j4 (IE U w K [] K [] []) ?_ ?_
 ·refine i5 ?_
  obtain ⟨aW, W, D⟩ := ob V
  refine qw (fun (o : Int) => IW w K [] K [(0, V3 A a b), (1, V3 B c d), (5, V6 o)] [] (d9 o)) W ⟨K, rfl, hS, kr, I0⟩ ?_
  rintro o _ aX aY X G ⟨H, rfl, I, k, aZ⟩
  refine k8 (sr (mv rfl (mv rfl (lv (k9 underlying23 rfl (C.mono k)) (lv (n8 rfl rfl) (nq (B5 X rfl (fun Y q => ?_) (fun Y q => ?_))))))))
  ·refine i6 (qs (i5 (k8 ?_)))
   obtain ⟨aa, ab, ac⟩ := ob q
   refine j4 (IV w K [] H [(0, V3 A a b), (1, V3 B c d), (5, V6 o), (41, .bool aa)] []) ?_ ?_
   ·refine C2 mixed (by kernel_rfl) I (km rfl (km rfl (kv (k9 underlying114 rfl (l.mono k)) (kv (a2F rfl rfl) (km rfl (bt ab (fun i s => ?_) (fun i s => ?_)))))))
    ·iterate 10 refine kn i ?_
     refine kv (K5 rfl i rfl) (km rfl ?_)
     iterate 12 refine qv rfl rfl rfl rfl ?_
     refine kv (K5 rfl rfl rfl) (z7 ?_)
     rintro ba ⟨ad, ae, af⟩
     cases oi s
     exact qd ⟨ad, rfl, ae, af⟩
    refine kg i (d6 rfl) (kg i (d6 rfl) ?_)
    obtain ⟨J, ag, ah⟩ := ob s
    refine B4 (t := J7) (wg rfl rfl i) rfl underlying114 F9 rfl rfl (l.mono k) ag fun ai aj bb ak al => ?_
    obtain ⟨rfl, bc, bd⟩ := ak
    have am : D0 _ ai aj [sv J.Text, V6 J.At] := al
    refine kg i (b8 a1q rfl) (kgh i (z8 D9 rfl (am 0 _ rfl)) (kg i (d6 rfl) (kg i (d6 rfl) ?_)))
    obtain ⟨an, ao, ap⟩ := ob ah
    refine B4 (t := B8) (wg rfl rfl i) rfl underlying23 D9 rfl rfl (C.mono k) ao fun aq ar be au aw => ?_
    obtain ⟨rfl, bf⟩ := au
    have ax : D0 _ aq ar [sv an] := aw
    refine kgh i (z8 D9 rfl (ax 0 _ rfl)) (kg i (a0o rfl rfl) (kv (j9 rfl i rfl) (km rfl (bt ap (fun f x => ?_) (fun f x => ?_)))))
    ·iterate 12 refine kn f ?_
     refine kv (K5 rfl f rfl) (z7 ?_)
     rintro bg ⟨ay, az, aA⟩
     cases oi x
     exact qd ⟨ay, rfl, az, aA⟩
    refine kg f (d6 rfl) (kg f (d6 rfl) ?_)
    obtain ⟨O, aB, aC⟩ := ob x
    refine B4 (t := J7) (wg rfl rfl f) rfl underlying114 F9 rfl rfl (l.mono k) aB fun aD aE bh aF aG => ?_
    obtain ⟨rfl, bi, bj⟩ := aF
    have aH : D0 _ aD aE [sv O.Text, V6 O.At] := aG
    refine kg f (b8 a1r rfl) (kgh f (z8 D8 rfl (aH 1 _ rfl)) (kg f (d6 rfl) ?_))
    obtain ⟨R, aI, aJ⟩ := ob aC
    refine B4 (t := J7) (wg rfl rfl f) rfl underlying114 F9 rfl rfl (l.mono k) aI fun aK aL bk aM aN => ?_
    obtain ⟨rfl, bl, bm⟩ := aM
    have aO : D0 _ aK aL [sv R.Text, V6 R.At] := aN
    refine kg f (b8 a1r rfl) (kgh f (z8 D8 rfl (aO 1 _ rfl)) (kg f (d6 rfl) (kg f (s6 rfl rfl) (kg f (W3 rfl rfl) (kv (j9 rfl f rfl) (z7 ?_))))))
    rintro bn ⟨aP, aQ, aR⟩
    cases oi aJ
    exact qd ⟨aP, rfl, aQ, aR⟩
   rintro _ bo ⟨S, rfl, T, aS⟩
   refine j6 (B5 ac rfl (fun aT y => ?_) (fun aT y => ?_))
   ·refine sr (lv (M7 rfl) (nq (i9 (d8 (c9 (c9 ?_))))))
    cases oi y
    cases G _ rfl
    refine d8 (c9 ?_)
    cases oi D
    refine c9 ?_
    cases oi m
    exact ey results231 ⟨S, rfl, T⟩
   refine i6 (o0 (j6 (i7 (mv rfl (lv (s6 rfl rfl) (av rfl (d7 ?_)))))))
   cases oi y
   exact qd ⟨_, rfl, S, rfl, T, (k.trans aS), (l9 _)⟩
  refine q7 (d4 (d4 ?_))
  cases oi q
  cases G _ rfl
  refine j5 ?_
  cases oi D
  exact H9 ⟨_, H, rfl, rfl, I, k⟩ trivial
 rintro _ bp ⟨bq, aU, rfl, rfl, aV, br⟩
 have m := C8 m
 refine qr (lv (r_t rfl) (nq (i9 ?_)))
 cases oi m
 exact ey results231 ⟨aU, rfl, aV⟩

theorem a9X {q0 : q9} {q1 : List y9} {r : Int} (hS : SH w K [] w K []) (bn : b7 B8 K A a b q0.Stops) (s : b7 I4 K B c d q0.Syns) (V : b7 J7 K C f i q1) (hm : a1N F q0 q1 = some r) :
  Calls prog 184 #[.agg #[V3 A a b, V3 B c d], V3 C f i] w (R_i w K r) := by
 rw [a1N] at hm
 refine ci func184 rfl ntmps184 (sr (bx rfl hS fun q bo W => ?_))
 have X : SH _ _ _ _ _ [q8 q [V3 A a b, V3 B c d] 26] := W
 refine lv (L3 rfl) (nr (lv (r9 (v := V6 (-1)) rfl) (P6 (lv (L3 rfl) (nq ?_)))))
 obtain ⟨I, Y, aa⟩ := ob hm
 refine j4 (IW w K [] K [(5, V6 I)] [] (d9 I)) ?_ ?_
 ·refine i5 ?_
  obtain ⟨bp, ab, ac⟩ := ob Y
  refine qw (fun (o : Int × Int) => IW w K [] K [(1, V3 C f i), (2, pt q), (5, V6 o.1), (6, V6 o.2)] [q8 q [V3 A a b, V3 B c d] 26] (d9 o.1 ∧ d9 o.2)) ab ⟨K, rfl, X, kr, (by decide : d9 (-1)), I0⟩ ?_
  rintro o _ bq br ad ae ⟨J, rfl, x, m, O, af⟩
  refine k8 (sr (mv rfl (fl a1x rfl a5V m0 x rfl (lv (k9 underlying24 rfl (s.mono m)) (lv (n8 rfl rfl) (nq (B5 ad rfl (fun ag y => ?_) (fun ag y => ?_))))))))
  ·refine i6 (qs (i5 (k8 ?_)))
   obtain ⟨ah, ai, aj⟩ := ob y
   refine j4 (IV w K [] J [(1, V3 C f i), (2, pt q), (5, V6 o.1), (6, V6 o.2), (42, .bool ah)] [q8 q [V3 A a b, V3 B c d] 26]) ?_ ?_
   ·refine C2 mixed (by kernel_rfl) x (km rfl (kv (b8 a1x rfl) (kh (u2 a5V rfl m0 rfl) (km rfl ?_))))
    obtain ⟨ak, al, am⟩ := ob ai
    refine ki underlying24 a3Z (s.mono m) al fun an ao bs ap aq => ?_
    obtain ⟨ar, au, aw, rfl, ax, bu⟩ := ap
    have ay : D0 _ an ao [V3 ar au aw, sv ak.To] := aq
    refine kv (b8 a0K rfl) (kh (z8 O5 rfl (ay 0 _ rfl)) ?_)
    obtain ⟨bv, az, aA⟩ := ob am
    refine kc b9s (fun _ _ aB R => (a7a F) aB.enter0 (V.mono (m.trans R)) (ax.mono R) az) (km rfl (bt aA (fun l D => ?_) (fun l D => ?_)))
    ·refine kg l (d6 rfl) (kg l (n8 rfl rfl) (kg l (d6 rfl) (bt D (fun k G => ?_) (fun k G => ?_))))
     ·iterate 15 refine kn k ?_
      refine kg l (K5 rfl k rfl) (kv (j3 rfl l rfl) (z7 ?_))
      rintro bz ⟨aC, aD, aE⟩
      cases oi G
      exact qd ⟨aC, rfl, aD, aE⟩
     refine kg k (b8 a1x rfl) (kgh k (u2 a5V rfl m0 rfl) (kg k (d6 rfl) ?_))
     obtain ⟨aF, aG, aH⟩ := ob G
     refine B4 (t := I4) (wg rfl rfl k) rfl underlying24 a3Z rfl rfl (s.mono m) aG fun aI aJ bA aK aL => ?_
     obtain ⟨aM, aN, aO, rfl, aP, bB⟩ := aK
     have aQ : D0 _ aI aJ [V3 aM aN aO, sv aF.To] := aL
     refine kg k (b8 a0K rfl) (kgh k (z8 O5 rfl (aQ 0 _ rfl)) (kg k (k9 underlying23 rfl aP) (kg k (b8 a1x rfl) (kgh k (u2 a5V rfl m0 rfl) (kg k (d6 rfl) ?_)))))
     obtain ⟨aR, aS, aT⟩ := ob aH
     refine B4 (t := I4) (wg rfl rfl k) rfl underlying24 a3Z rfl rfl (s.mono m) aS fun aU aV bC aW aX => ?_
     obtain ⟨aY, aZ, ba, rfl, bb, bD⟩ := aW
     have bc : D0 _ aU aV [V3 aY aZ ba, sv aR.To] := aX
     refine kg k (b8 a0K rfl) (kgh k (z8 O5 rfl (bc 0 _ rfl)) (kg k (k9 underlying23 rfl bb) (kg k (E5 rfl rfl) (kg l (j9 rfl k rfl) (kv (j3 rfl l rfl) (z7 ?_))))))
     rintro bE ⟨bd, be, bf⟩
     cases oi aT
     exact qd ⟨bd, rfl, be, bf⟩
    refine kn l (kn l (kn l ?_))
    iterate 15 refine ku ?_
    refine kn l (kv (F7 rfl l rfl) (z7 ?_))
    rintro bF ⟨bg, bh, bi⟩
    cases oi D
    exact qd ⟨bg, rfl, bh, bi⟩
   rintro _ bG ⟨S, rfl, T, U⟩
   refine j6 (B5 aj rfl (fun bj H => ?_) (fun bj H => ?_))
   ·refine i7 (mv rfl (av rfl (nb (j6 (i7 (mv rfl (lv (s6 rfl rfl) (av rfl (d7 ?_)))))))))
    cases oi H
    exact qd ⟨_, rfl, S, rfl, T, (m.trans U), af, (l9 _)⟩
   refine i6 (o0 (j6 (i7 (mv rfl (lv (s6 rfl rfl) (av rfl (d7 ?_)))))))
   cases oi H
   exact qd ⟨_, rfl, S, rfl, T, (m.trans U), O, (l9 _)⟩
  refine q7 (d4 (d4 ?_))
  cases oi y
  cases ae _ rfl
  refine j5 ?_
  cases oi ac
  exact qd ⟨J, rfl, x.s, m, O⟩
 rintro _ bH ⟨bk, rfl, bl, bI, bm⟩
 refine qr (mv rfl (av rfl (nq (i9 ?_))))
 cases oi aa
 exact ey results184 ⟨bk, rfl, bl, bm⟩

theorem a6u {q0 : s7} {r : s7} (hS : SH w K [] w K []) (G : d9 q0.Id) (H : b7 F3 K A a b q0.Fields) (I : b7 G5 K B c d q0.Nums) (hm : a0V F q0 = some r) :
  Calls prog 176 #[.agg #[V6 q0.Id, V3 A a b, V3 B c d]] w fun e w' => ∃ a_2 n_3 c_4 a_6 n_7 c_8 K', e = .returned (.agg #[V6 r.Id, V3 a_2 n_3 c_4, V3 a_6 n_7 c_8]) ∧ SH w K [] w' K' [tail (V3 a_2 n_3 c_4) 158 2, tail (V3 a_6 n_7 c_8) 197 2] ∧ d9 r.Id ∧ b7 F3 K' a_2 n_3 c_4 r.Fields ∧ b7 G5 K' a_6 n_7 c_8 r.Nums := by
 rw [a0V] at hm
 refine ci func176 rfl ntmps176 (sr (bx rfl hS fun aC aX aE => ?_))
 have aF : SH _ _ _ _ _ [q8 aC [V6 q0.Id, V3 A a b, V3 B c d] 54] := aE
 refine al C0 aF fun aG aY aH => ?_
 have aI : SH _ _ _ _ _ [q8 aG [V6 0, V3 none 0 0, V3 none 0 0] 54, _] := aH
 refine ns ?_
 obtain ⟨aZ, J, aJ⟩ := ob hm
 obtain ⟨ba, O, R⟩ := ob aJ
 have v := aI.drew
 refine j_0 (fun w' => E7 K w' ∧ y7 aC [V6 q0.Id, V3 A a b, V3 B c d] w') 12 [] mixed ⟨v.hasK kr, v.hasObj m1⟩ (jv 0 rfl (b8 X7 rfl) (jh 1 rfl (fun _ h => y2 D8 rfl rfl h.2) (jv 3 rfl (b8 W0 rfl) (jh 4 rfl (fun _ h => y2 a3Y rfl rfl h.2) (jv 7 rfl (b8 X8 rfl) (jh 8 rfl (fun _ h => y2 a4e rfl rfl h.2) (j2 2 6 rfl rfl ?_ ?_)))))))
 ·refine b0 F3 underlying51 M9 v fun bb bc bd f aD x => (W2 ⟨x.hasK f, x.hasObj m2⟩ (j2 5 6 rfl rfl ?_ ?_))
  ·refine lp underlying51 M9 aD (H.mono f) J x fun S T U be bf m aK V => (W2 ⟨V.hasK (f.trans m), V.hasObj m2⟩ (j1 6 rfl (b0 G5 underlying52 P9 V fun bg bh bi o aL W => (W2 ⟨W.hasK ((f.trans m).trans o), W.hasObj m3⟩ (j1 9 rfl (lp underlying52 P9 aL (I.mono ((f.trans m).trans o)) O W fun X Y aa bj aM ab aN ac => (W2 ⟨ac.hasK (((f.trans m).trans o).trans ab), ac.hasObj m3⟩ (jv 10 rfl (A5 (cs := #[V6 q0.Id, V3 S T U, V3 X Y aa]) a93 C0 rfl (by kernel_rfl)) (j1 11 rfl ?_)))))))))
   refine lw [V6 q0.Id, V3 S T U, V3 X Y aa] C0 ac.f2 fun bk y => (W2 ⟨y.hasK (((f.trans m).trans o).trans ab), y.hasObj m3⟩ (jd (j6 (i9 ?_))))
   cases oi R
   exact ez results176 C0 y m0 ⟨S, T, U, X, Y, aa, aM, rfl, y.f1.f2.s, G, (aK.mono (o.trans ab)), aN⟩
  refine b0 G5 underlying52 P9 x fun bl bm bn i aO ad => (W2 ⟨ad.hasK (f.trans i), ad.hasObj m3⟩ (j1 5 rfl (lp underlying51 M9 (aD.mono i) (H.mono (f.trans i)) J ad.f1 fun ae af ag bo bp q aP ah => (W2 ⟨ah.hasK ((f.trans i).trans q), ah.hasObj m3⟩ (j1 9 rfl (lp underlying52 P9 (aO.mono q) (I.mono ((f.trans i).trans q)) O ah.f1 fun ai aj ak bq aQ am aR an => (W2 ⟨an.hasK (((f.trans i).trans q).trans am), an.hasObj m3⟩ (jv 10 rfl (A5 (cs := #[V6 q0.Id, V3 ae af ag, V3 ai aj ak]) a93 C0 rfl (by kernel_rfl)) (j1 11 rfl ?_)))))))))
  refine lw [V6 q0.Id, V3 ae af ag, V3 ai aj ak] C0 an.f2 fun br C => (W2 ⟨C.hasK (((f.trans i).trans q).trans am), C.hasObj m3⟩ (jd (j6 (i9 ?_))))
  cases oi R
  exact ez results176 C0 C m0 ⟨ae, af, ag, ai, aj, ak, aQ, rfl, C.f1.f2.s, G, (aP.mono am), aR⟩
 refine b0 G5 underlying52 P9 v fun bs bu bv k aS ao => (W2 ⟨ao.hasK k, ao.hasObj m2⟩ (j1 2 rfl (b0 F3 underlying51 M9 ao fun bz bA bB l aT ap => (W2 ⟨ap.hasK (k.trans l), ap.hasObj m3⟩ (j1 5 rfl (lp underlying51 M9 aT (H.mono (k.trans l)) J ap fun aq ar au bC bD s aU aw => (W2 ⟨aw.hasK ((k.trans l).trans s), aw.hasObj m3⟩ (j1 9 rfl (lp underlying52 P9 (aS.mono (l.trans s)) (I.mono ((k.trans l).trans s)) O aw.f1 fun ax ay az bE aV aA aW aB => ?_)))))))))
 refine W2 ⟨aB.hasK (((k.trans l).trans s).trans aA), aB.hasObj m3⟩ (jv 10 rfl (A5 (cs := #[V6 q0.Id, V3 aq ar au, V3 ax ay az]) a93 C0 rfl (by kernel_rfl)) (j1 11 rfl (lw [V6 q0.Id, V3 aq ar au, V3 ax ay az] C0 aB.f2 fun bF D => (W2 ⟨D.hasK (((k.trans l).trans s).trans aA), D.hasObj m3⟩ (jd (j6 (i9 ?_)))))))
 cases oi R
 exact ez results176 C0 D m0 ⟨aq, ar, au, ax, ay, az, aV, rfl, D.f1.f2.s, G, (aU.mono aA), aW⟩

theorem Z7 {q0 : z2} {q1 : k6} {q2 : k6} {r : (List D5)} (hS : SH w K [] w K []) (aP : b7 E1 K A a b q0.Docs) (m : b7 z6 K B c d q0.Entries) (aQ : q1.length ≤ maxLen) (aR : q2.length ≤ maxLen) (hm : V8 F q0 q1 q2 = some r) :
  Calls prog 185 #[.agg #[V3 A a b, V3 B c d], sv q1, sv q2] w fun e w' => ∃ a_1 n_2 c_3 K', e = .returned (V3 a_1 n_2 c_3) ∧ SH w K [] w' K' [] ∧ b7 S1 K' a_1 n_2 c_3 r := by
 rw [V8] at hm
 refine ci func185 rfl ntmps185 (sr (bx rfl hS fun l aS W => ?_))
 have X : SH _ _ _ _ _ [q8 l [V3 A a b, V3 B c d] 46] := W
 refine lv (r_n rfl) (P6 (lv (L3 rfl) (nq ?_)))
 obtain ⟨Y, aa, o⟩ := ob hm
 refine j4 (IE Y w K [] K [] []) ?_ ?_
 ·refine i5 ?_
  obtain ⟨aT, ab, G⟩ := ob aa
  refine qw (fun (q : Int) => IW w K [] K [(1, sv q1), (2, sv q2), (3, pt l), (7, V6 q)] [q8 l [V3 A a b, V3 B c d] 46] (d9 q)) ab ⟨K, rfl, X, kr, I0⟩ ?_
  rintro q _ aU aV ac H ⟨s, rfl, i, k, aW⟩
  refine k8 (sr (mv rfl (fl G3 rfl W8 m0 i rfl (lv (k9 underlying44 rfl (m.mono k)) (lv (n8 rfl rfl) (nq (B5 ac rfl (fun ad y => ?_) (fun ad y => ?_))))))))
  ·refine i6 (qs (i5 (k8 ?_)))
   obtain ⟨ae, af, ag⟩ := ob y
   refine j4 (IV w K [] s [(1, sv q1), (2, sv q2), (3, pt l), (7, V6 q), (32, .bool ae)] [q8 l [V3 A a b, V3 B c d] 46]) ?_ ?_
   ·refine i7 (fl G3 rfl W8 m0 i rfl (mv rfl ?_))
    obtain ⟨I, ah, ai⟩ := ob af
    refine li underlying44 E3 (m.mono k) ah fun aj ak aX al am => ?_
    obtain ⟨an, ao, ap, rfl, aY, aZ, ba⟩ := al
    have aq : D0 _ aj ak [sv I.Field, sv I.Term, V3 an ao ap] := am
    refine fa a0l rfl (lv (u0 D9 rfl i (aq 0 _ rfl)) (mv rfl (lv (H0 rfl rfl) (mv rfl (bt ai (fun f C => ?_) (fun f C => ?_))))))
    ·refine lg f (b8 G3 rfl) (lg f (l8 W8 rfl m0 i rfl) (lg f (d6 rfl) ?_))
     obtain ⟨J, ar, au⟩ := ob C
     refine H1 (t := z6) (wg rfl rfl f) rfl underlying44 E3 rfl rfl (m.mono k) ar fun aw ax bb ay az => ?_
     obtain ⟨aA, aB, aC, rfl, bc, bd, be⟩ := ay
     have aD : D0 _ aw ax [sv J.Field, sv J.Term, V3 aA aB aC] := az
     refine lg f (b8 X5 rfl) (lg f (u0 D9 rfl i (aD 1 _ rfl)) (lg f (d6 rfl) (lg f (H0 rfl rfl) (lv (j3 rfl f rfl) (d7 ?_)))))
     cases oi au
     exact qd ⟨s, rfl, i, kr⟩
    iterate 8 refine lu f ?_
    refine lv (F7 rfl f rfl) (d7 ?_)
    cases oi C
    exact qd ⟨s, rfl, i, kr⟩
   rintro _ bf ⟨O, rfl, x, R⟩
   refine j6 (B5 ag rfl (fun aE D => ?_) (fun aE D => ?_))
   ·refine sr (fl G3 rfl W8 m0 x rfl (mv rfl ?_))
    obtain ⟨S, aF, aG⟩ := ob D
    refine li underlying44 E3 (m.mono (k.trans R)) aF fun aH aI bg aJ aK => ?_
    obtain ⟨T, U, V, rfl, bh, bi, aL⟩ := aJ
    have aM : D0 _ aH aI [sv S.Field, sv S.Term, V3 T U V] := aK
    refine fa L1 rfl (lv (u0 a2Q rfl x (aM 2 _ rfl)) (av rfl (nq (i9 (d8 (c9 (c9 ?_)))))))
    cases oi aG
    cases H _ rfl
    refine d8 (c9 ?_)
    cases oi G
    refine c9 ?_
    cases oi o
    exact ey results185 ⟨T, U, V, O, rfl, x.s, aL⟩
   refine i6 (o0 (j6 (i7 (mv rfl (lv (s6 rfl rfl) (av rfl (d7 ?_)))))))
   cases oi D
   exact qd ⟨_, rfl, O, rfl, x, (k.trans R), (l9 _)⟩
  refine q7 (d4 (d4 ?_))
  cases oi y
  cases H _ rfl
  refine j5 ?_
  cases oi G
  exact H9 ⟨_, s, rfl, rfl, i.s, k⟩ trivial
 rintro _ bj ⟨bk, aN, rfl, rfl, aO, bl⟩
 have o := C8 o
 refine qr (lv (r_n rfl) (nq (i9 ?_)))
 cases oi o
 exact ey results185 ⟨none, 0, 0, aN, rfl, aO, (b7.nil _ _)⟩

theorem a3z {q0 : z2} {q1 : k6} {q2 : k6} {q3 : Int} {r : (List Int)} (hS : SH w K [] w K []) (J : b7 E1 K A a b q0.Docs) (O : b7 z6 K B c d q0.Entries) (R : q1.length ≤ maxLen) (S : q2.length ≤ maxLen) (aJ : d9 q3) (hm : X3 F q0 q1 q2 q3 = some r) :
  Calls prog 186 #[.agg #[V3 A a b, V3 B c d], sv q1, sv q2, V6 q3] w fun e w' => ∃ a_1 n_2 c_3 K', e = .returned (V3 a_1 n_2 c_3) ∧ SH w K [] w' K' [] ∧ b7 B7 K' a_1 n_2 c_3 r := by
 rw [X3] at hm
 refine ci func186 rfl ntmps186 (sr (bx rfl hS fun T aK U => ?_))
 have l : SH _ _ _ _ _ [q8 T [V3 A a b, V3 B c d] 46] := U
 refine lv (r_n rfl) (nr (lv (l3 (ds := [V3 A a b, V3 B c d]) G0 rfl m0 l rfl rfl) (mv rfl (mv rfl ?_))))
 obtain ⟨aL, V, W⟩ := ob hm
 refine lk b1v (Z7 F l.enter0 J O R S V) ?_
 rintro aM aN ⟨X, Y, aa, m, rfl, ab, o⟩
 have ac := (l.c0 ab).t1
 refine av rfl (P6 (lv (L3 rfl) (nq ?_)))
 obtain ⟨ad, ae, k⟩ := ob W
 refine j4 (IE ad w K [] m [] []) ?_ ?_
 ·refine i5 ?_
  obtain ⟨aO, af, C⟩ := ob ae
  have ag := ac.sb (sd sz)
  refine qw (fun (q : Int) => IW w K [] m [(3, V6 q3), (9, V3 X Y aa), (10, V6 q)] [] (d9 q)) af ⟨m, rfl, ag, kr, I0⟩ ?_
  rintro q _ aP aQ ah D ⟨s, rfl, f, i, aR⟩
  refine k8 (sr (mv rfl (mv rfl (lv (k9 underlying57 rfl (o.mono i)) (lv (n8 rfl rfl) (nq (B5 ah rfl (fun ai x => ?_) (fun ai x => ?_))))))))
  ·refine i6 (qs (i5 (sr (mv rfl (mv rfl ?_)))))
   obtain ⟨aj, ak, al⟩ := ob x
   refine li underlying57 a1m (o.mono i) ak fun am an aS ao ap => ?_
   obtain ⟨aq, ar, au, rfl, aT, aU⟩ := ao
   have aw : D0 _ am an [V6 aj.Doc, V3 aq ar au] := ap
   refine fa a4E rfl (lv (u0 D8 rfl f (aw 0 _ rfl)) (mv rfl (lv (u3 rfl rfl) (nq (B5 al rfl (fun ax y => ?_) (fun ax y => ?_))))))
   ·refine sr (mv rfl (mv rfl ?_))
    obtain ⟨ay, az, aA⟩ := ob y
    refine li underlying57 a1m (o.mono i) az fun aB aC aV aD aE => ?_
    obtain ⟨G, H, I, rfl, aW, aF⟩ := aD
    have aG : D0 _ aB aC [V6 ay.Doc, V3 G H I] := aE
    refine fa a3t rfl (lv (u0 Y3 rfl f (aG 1 _ rfl)) (av rfl (nq (i9 (d8 (c9 (c9 ?_)))))))
    cases oi aA
    cases D _ rfl
    refine d8 (c9 ?_)
    cases oi C
    refine c9 ?_
    cases oi k
    exact ey results186 ⟨G, H, I, s, rfl, f, aF⟩
   refine i6 (o0 (j6 (i7 (mv rfl (lv (s6 rfl rfl) (av rfl (d7 ?_)))))))
   cases oi y
   exact qd ⟨_, rfl, s, rfl, f, i, (l9 _)⟩
  refine q7 (d4 (d4 ?_))
  cases oi x
  cases D _ rfl
  refine j5 ?_
  cases oi C
  exact H9 ⟨_, s, rfl, rfl, f, i⟩ trivial
 rintro _ aX ⟨aY, aH, rfl, rfl, aI, aZ⟩
 have k := C8 k
 refine qr (lv (r_n rfl) (nq (i9 ?_)))
 cases oi k
 exact ey results186 ⟨none, 0, 0, aH, rfl, aI, (b7.nil _ _)⟩

theorem a9c (F : Nat) : ∀ {w : World} {K : C5} {q0 : Int} {q1 : Int} {r : Int} (hS : SH w K [] w K []) (d : d9 q0) (f : d9 q1) (hm : T8 F q0 q1 = some r),
  Calls prog 260 #[V6 q0, V6 q1] w (R_i w K r) := by
 induction F with
 | zero => intros; rename_i hm; rw [T8] at hm; cases hm
 | succ F ih =>
  intro w K q0 q1 r hS d f hm
  rw [T8] at hm
  refine ci func260 rfl ntmps260 (sr (lv (L3 rfl) (P6 (mv rfl (lv (n8 rfl rfl) (nq ?_))))))
  obtain ⟨i, m, o⟩ := ob hm
  refine j4 (IW w K [] K [(0, V6 i), (1, V6 q1)] [] (d9 i)) ?_ ?_
  ·refine B5 m rfl (fun q a => ?_) (fun q a => ?_)
   ·refine i7 (mv rfl (lv (a47 rfl) (av rfl (d7 ?_))))
    cases oi a
    exact qd ⟨K, rfl, hS, kr, (l9 _)⟩
   refine i6 ?_
   cases oi a
   exact qd ⟨K, rfl, hS, kr, d⟩
  rintro _ I ⟨s, rfl, b, J, k⟩
  refine qs (sr (mv rfl (lv (u3 rfl rfl) (nq (B5 o rfl (fun x c => ?_) (fun x c => ?_))))))
  ·refine sr (mv rfl (av rfl (nq (rr ?_))))
   cases oi c
   exact ey results260 ⟨s, rfl, b, k⟩
  refine i6 (qr (mv rfl (mv rfl (mv rfl ?_))))
  obtain ⟨O, l, y⟩ := ob c
  refine lv (a7h rfl rfl l) ?_
  obtain ⟨R, A, B⟩ := ob y
  refine lk b7E (ih b.enter0 f (a8I k l) A) ?_
  rintro S T ⟨C, rfl, D, G⟩
  have H := (b.c0 D).t0
  refine av rfl (nq (i9 ?_))
  cases oi B
  exact ey results260 ⟨C, rfl, H, G⟩

theorem a8c {q0 : Int} {q1 : Int} {r : a3G} (hS : SH w K [] w K []) (s : d9 q0) (v : d9 q1) (hm : a0u F q0 q1 = some r) :
  Calls prog 232 #[V6 q0, V6 q1] w fun e w' => ∃ K', e = .returned (.agg #[V6 r.Up, V6 r.Down]) ∧ SH w K [] w' K' [] ∧ d9 r.Up ∧ d9 r.Down := by
 rw [a0u] at hm
 refine ci func232 rfl ntmps232 (sr (al W5 hS fun g3 S x => ?_))
 have d : SH _ _ _ _ _ [q8 g3 [V6 0, V6 0] 73] := x
 refine P6 (mv rfl (lv (n8 rfl rfl) (nq ?_)))
 obtain ⟨a, y, A⟩ := ob hm
 refine j4 (IW w K [] K [(0, V6 a.1), (1, V6 a.2), (4, pt g3)] [q8 g3 [V6 0, V6 0] 73] (d9 a.1 ∧ d9 a.2)) ?_ ?_
 ·refine B5 y rfl (fun B b => ?_) (fun B b => ?_)
  ·refine sr (mv rfl (lv (a47 rfl) (av rfl (nq (i7 (mv rfl (lv (a47 rfl) (av rfl (d7 ?_)))))))))
   cases oi b
   exact qd ⟨K, rfl, d, kr, (l9 _), (l9 _)⟩
  refine i6 ?_
  cases oi b
  exact qd ⟨K, rfl, d, kr, s, v⟩
 rintro _ T ⟨U, rfl, f, V, C, D⟩
 refine qr (mv rfl (mv rfl ?_))
 obtain ⟨W, G, H⟩ := ob A
 refine lk b7E (a9c F f.enter0 C D G) ?_
 rintro X Y ⟨i, rfl, I, aa⟩
 have J := (f.c0 I).t1
 refine av rfl (ns ?_)
 have k := J.drew
 refine wh1 (fun w' => E7 i w') (fun w' => True) 8 [] mixed (k.hasK kr) (fun _ => trivial) (gt (d6 rfl) (gt (d6 rfl) ?_))
 obtain ⟨l, m, O⟩ := ob H
 refine gt (a2d rfl rfl m) (gt (d6 rfl) (gt (d6 rfl) ?_))
 obtain ⟨o, q, R⟩ := ob O
 refine gt (a2d rfl rfl q) (gt (A5 (cs := #[V6 l, V6 o]) b9T W5 rfl (by kernel_rfl)) (gn (lw [V6 l, V6 o] W5 k fun ab c => (d7 (qh (c.hasK kr) (fun _ => trivial) (gd' (j6 (i9 ?_))))))))
 cases oi R
 exact ez results232 W5 c m0 ⟨i, rfl, c.s, (a1V m), (a1V q)⟩

theorem a8g {q0 : Int} {q1 : Int} {r : Int} (hS : SH w K [] w K []) (s : d9 q0) (U : d9 q1) (hm : a0x F q0 q1 = some r) :
  Calls prog 233 #[V6 q0, V6 q1] w (R_i w K r) := by
 rw [a0x] at hm
 refine ci func233 rfl ntmps233 (sr (lv (L3 rfl) (nr (lv (L3 rfl) (ns ?_)))))
 obtain ⟨i, x, y⟩ := ob hm
 refine j4 (IW w K [] K [(5, V6 i)] [] (d9 i)) ?_ ?_
 ·refine i5 ?_
  obtain ⟨V, A, B⟩ := ob x
  refine qw (fun (b : Int × Int) => IW w K [] K [(0, V6 b.1), (1, V6 q1), (5, V6 b.2)] [] (d9 b.1 ∧ d9 b.2)) A ⟨K, rfl, hS, kr, s, I0⟩ ?_
  rintro b _ W X C D ⟨c, rfl, k, l, Y, G⟩
  refine k8 (k8 ?_)
  obtain ⟨H, I, J⟩ := ob C
  refine j4 (IV w K [] c [(0, V6 b.1), (1, V6 q1), (5, V6 b.2), (13, .bool H)] []) ?_ ?_
  ·refine i7 (mv rfl (lv (E5 rfl rfl) (mv rfl (bt I (fun a d => ?_) (fun a d => ?_)))))
   ·refine lg a (d6 rfl) (lg a (I9 rfl rfl) (lg a (d6 rfl) (lg a (R9 rfl rfl) (lv (j3 rfl a rfl) (d7 ?_)))))
    cases oi d
    exact qd ⟨c, rfl, k, kr⟩
   refine lu a (lu a (lu a (lu a (lv (F7 rfl a rfl) (d7 ?_)))))
   cases oi d
   exact qd ⟨c, rfl, k, kr⟩
  rintro _ aa ⟨m, rfl, o, q⟩
  refine j6 (B5 J rfl (fun O f => ?_) (fun O f => ?_))
  ·refine i6 (j6 (i5 (sr (mv rfl (lv (I9 rfl rfl) (av rfl (nq (i7 (mv rfl ?_)))))))))
   refine lv (s6 rfl rfl) (av rfl (nb ?_))
   cases oi f
   exact qd ⟨_, rfl, m, rfl, o, (l.trans q), (l9 _), (l9 _)⟩
  refine q7 (d4 (d4 ?_))
  cases oi f
  cases D _ rfl
  refine j5 ?_
  cases oi B
  exact qd ⟨m, rfl, o, (l.trans q), G⟩
 rintro _ w8 ⟨R, rfl, S, ac, T⟩
 refine qr (mv rfl (av rfl (nq (i9 ?_))))
 cases oi y
 exact ey results233 ⟨R, rfl, S, T⟩

theorem Z5 {q0 : Int} {q1 : Int} {q2 : Int} {q3 : Int} {q4 : Int} {r : a3G} (hS : SH w K [] w K []) (U : d9 q0) (V : d9 q1) (W : d9 q2) (o : d9 q3) (q : d9 q4) (hm : a0y F q0 q1 q2 q3 q4 = some r) :
  Calls prog 187 #[V6 q0, V6 q1, V6 q2, V6 q3, V6 q4] w fun e w' => ∃ K', e = .returned (.agg #[V6 r.Up, V6 r.Down]) ∧ SH w K [] w' K' [] ∧ d9 r.Up ∧ d9 r.Down := by
 rw [a0y] at hm
 refine ci func187 rfl ntmps187 (sr (al W5 hS fun a X s => ?_))
 have c : SH _ _ _ _ _ [q8 a [V6 0, V6 0] 73] := s
 refine nr (lv (r9 (v := V6 1) rfl) (P6 (mv rfl (lv (E5 rfl rfl) (nq ?_)))))
 obtain ⟨d, x, y⟩ := ob hm
 refine j4 (IW w K [] K [(0, V6 q0), (3, V6 q3), (4, V6 q4), (10, pt a), (11, V6 d)] [q8 a [V6 0, V6 0] 73] (d9 d)) ?_ ?_
 ·refine B5 x rfl (fun A b => ?_) (fun A b => ?_)
  ·refine i7 (mv rfl (mv rfl (lv (I9 rfl rfl) (lv (I9 rfl rfl) (mv rfl ?_)))))
   obtain ⟨Y, f, B⟩ := ob b
   refine lv (a2d rfl rfl f) (av rfl (d7 ?_))
   cases oi B
   exact qd ⟨K, rfl, c, kr, (a1V f)⟩
  refine i6 ?_
  cases oi b
  exact qd ⟨K, rfl, c, kr, (by decide : d9 1)⟩
 rintro _ aa ⟨ab, rfl, i, ac, ad⟩
 refine qr (mv rfl (mv rfl ?_))
 obtain ⟨ae, C, D⟩ := ob y
 refine lk b9u (a8g F i.enter0 q o C) ?_
 rintro af ag ⟨ah, rfl, G, ai⟩
 have k := (i.c0 G).t1
 refine lv (s6 rfl rfl) (lv (I9 rfl rfl) (mv rfl (lv (I9 rfl rfl) (mv rfl (lv (I9 rfl rfl) (lv (s6 rfl rfl) (mv rfl (lv (s6 rfl rfl) ?_))))))))
 obtain ⟨l, H, I⟩ := ob D
 refine lk b9t (a8c F k.enter0 (l9 _) (l9 _) H) ?_
 rintro aj ak ⟨J, rfl, O, R, S⟩
 have T := (k.c0 O).t1
 refine lw [V6 l.Up, V6 l.Down] W5 T fun am m => (nq (i9 ?_))
 cases oi I
 exact ez results187 W5 m m0 ⟨J, rfl, m.s, R, S⟩

theorem a4X {q0 : z2} {q1 : k6} {q2 : Int} {r : Int} (hS : SH w K [] w K []) (bX : b7 E1 K A a b q0.Docs) (x : b7 z6 K B c d q0.Entries) (bY : q1.length ≤ maxLen) (bZ : d9 q2) (hm : a1h F q0 q1 q2 = some r) :
  Calls prog 188 #[.agg #[V3 A a b, V3 B c d], sv q1, V6 q2] w (R_i w K r) := by
 rw [a1h] at hm
 refine ci func188 rfl ntmps188 (sr (bx rfl hS fun i ca ab => ?_))
 have ac : SH _ _ _ _ _ [q8 i [V3 A a b, V3 B c d] 46] := ab
 refine lv (L3 rfl) (nr (lv (L3 rfl) (P6 (lv (L3 rfl) (nq ?_)))))
 obtain ⟨S, ad, ae⟩ := ob hm
 refine j4 (IW w K [] K [(7, V6 S)] [] (d9 S)) ?_ ?_
 ·refine i5 ?_
  obtain ⟨cb, af, ag⟩ := ob ad
  refine qw (fun (l : Int × Int) => IW w K [] K [(1, sv q1), (2, V6 q2), (3, pt i), (7, V6 l.1), (8, V6 l.2)] [q8 i [V3 A a b, V3 B c d] 46] (d9 l.1 ∧ d9 l.2)) af ⟨K, rfl, ac, kr, I0, I0⟩ ?_
  rintro l _ cc cd ah ai ⟨C, rfl, D, m, T, ce⟩
  refine k8 (sr (mv rfl (fl G3 rfl W8 m0 D rfl (lv (k9 underlying44 rfl (x.mono m)) (lv (n8 rfl rfl) (nq (B5 ah rfl (fun aj G => ?_) (fun aj G => ?_))))))))
  ·refine i6 (qs (i5 (sr (lv (L3 rfl) (nq ?_)))))
   obtain ⟨U, ak, al⟩ := ob G
   refine j4 (IW w K [] C [(1, sv q1), (2, V6 q2), (3, pt i), (7, V6 U), (8, V6 l.2)] [q8 i [V3 A a b, V3 B c d] 46] (d9 U)) ?_ ?_
   ·refine i5 ?_
    obtain ⟨cf, am, an⟩ := ob ak
    refine qw (fun (o : Int × Int) => IW w K [] C [(1, sv q1), (2, V6 q2), (3, pt i), (7, V6 o.1), (8, V6 l.2), (9, V6 o.2)] [q8 i [V3 A a b, V3 B c d] 46] (d9 o.1 ∧ d9 o.2)) am ⟨C, rfl, D, kr, T, I0⟩ ?_
    rintro o _ cg ch ao ap ⟨H, rfl, s, q, V, cj⟩
    refine k8 (k8 ?_)
    obtain ⟨aq, ar, au⟩ := ob ao
    refine j4 (IV w K [] H [(1, sv q1), (2, V6 q2), (3, pt i), (7, V6 o.1), (8, V6 l.2), (9, V6 o.2), (35, .bool aq)] [q8 i [V3 A a b, V3 B c d] 46]) ?_ ?_
    ·refine i7 (mv rfl (fl G3 rfl W8 m0 s rfl (mv rfl ?_)))
     obtain ⟨W, aw, ax⟩ := ob ar
     refine li underlying44 E3 (x.mono (m.trans q)) aw fun ay az ck aA aB => ?_
     obtain ⟨aC, aD, aE, rfl, cl, cm, aF⟩ := aA
     have aG : D0 _ ay az [sv W.Field, sv W.Term, V3 aC aD aE] := aB
     refine fa L1 rfl (lv (u0 a2Q rfl s (aG 2 _ rfl)) (lv (k9 underlying57 rfl aF) (lv (n8 rfl rfl) (mv rfl (bt ax (fun f I => ?_) (fun f I => ?_))))))
     ·refine lg f (b8 G3 rfl) (lg f (l8 W8 rfl m0 s rfl) (lg f (d6 rfl) ?_))
      obtain ⟨X, aH, aI⟩ := ob I
      refine H1 (t := z6) (wg rfl rfl f) rfl underlying44 E3 rfl rfl (x.mono (m.trans q)) aH fun aJ aK cn aL aM => ?_
      obtain ⟨aN, aO, aP, rfl, cp, cq, cr⟩ := aL
      have aQ : D0 _ aJ aK [sv X.Field, sv X.Term, V3 aN aO aP] := aM
      refine lg f (b8 a0l rfl) (lg f (u0 D9 rfl s (aQ 0 _ rfl)) (lg f (d6 rfl) (lg f (H0 rfl rfl) (lv (j3 rfl f rfl) (d7 ?_)))))
      cases oi aI
      exact qd ⟨H, rfl, s, kr⟩
     iterate 8 refine lu f ?_
     refine lv (F7 rfl f rfl) (d7 ?_)
     cases oi I
     exact qd ⟨H, rfl, s, kr⟩
    rintro _ u6 ⟨J, rfl, k, y⟩
    refine j6 (B5 au rfl (fun aR O => ?_) (fun aR O => ?_))
    ·refine i6 (qs (i5 (sr (fl G3 rfl W8 m0 k rfl (mv rfl ?_)))))
     obtain ⟨Y, aS, aT⟩ := ob O
     refine li underlying44 E3 (x.mono ((m.trans q).trans y)) aS fun aU aV cs aW aX => ?_
     obtain ⟨aY, aZ, ba, rfl, ct, cu, bb⟩ := aW
     have bc : D0 _ aU aV [sv Y.Field, sv Y.Term, V3 aY aZ ba] := aX
     refine fa L1 rfl (lv (u0 a2Q rfl k (bc 2 _ rfl)) (mv rfl ?_))
     obtain ⟨bd, be, bf⟩ := ob aT
     refine li underlying57 a1m bb be fun bg bh cv bi bj => ?_
     obtain ⟨bk, bl, bm, rfl, cw, cx⟩ := bi
     have bn : D0 _ bg bh [V6 bd.Doc, V3 bk bl bm] := bj
     refine fa a4E rfl (lv (u0 D8 rfl k (bn 0 _ rfl)) (mv rfl (lv (u3 rfl rfl) (nq (B5 bf rfl (fun bo R => ?_) (fun bo R => ?_))))))
     ·refine i7 (mv rfl (fl G3 rfl W8 m0 k rfl (mv rfl ?_)))
      obtain ⟨aa, bp, bq⟩ := ob R
      refine li underlying44 E3 (x.mono ((m.trans q).trans y)) bp fun br bs cy bu bv => ?_
      obtain ⟨bz, bA, bB, rfl, cz, cA, bC⟩ := bu
      have bD : D0 _ br bs [sv aa.Field, sv aa.Term, V3 bz bA bB] := bv
      refine fa L1 rfl (lv (u0 a2Q rfl k (bD 2 _ rfl)) (mv rfl ?_))
      obtain ⟨bE, bF, bG⟩ := ob bq
      refine li underlying57 a1m bC bF fun bH bI cB bJ bK => ?_
      obtain ⟨bL, bM, bN, rfl, cC, bO⟩ := bJ
      have bP : D0 _ bH bI [V6 bE.Doc, V3 bL bM bN] := bK
      refine fa a3t rfl (lv (u0 Y3 rfl k (bP 1 _ rfl)) (lv (k9 underlying55 rfl bO) (lv (s6 rfl rfl) (av rfl (nb (j6 (i7 (mv rfl (lv (s6 rfl rfl) ?_)))))))))
      refine av rfl (d7 ?_)
      cases oi bG
      exact qd ⟨_, rfl, J, rfl, k, (q.trans y), (l9 _), (l9 _)⟩
     refine i6 (o0 (j6 (i7 (mv rfl (lv (s6 rfl rfl) (av rfl (d7 ?_)))))))
     cases oi R
     exact qd ⟨_, rfl, J, rfl, k, (q.trans y), V, (l9 _)⟩
    refine q7 (d4 (d4 ?_))
    cases oi O
    cases ap _ rfl
    refine j5 ?_
    cases oi an
    exact qd ⟨J, rfl, k, (q.trans y), V⟩
   rintro _ cD ⟨bQ, rfl, bR, bS, bT⟩
   refine o0 (j6 (i7 (mv rfl (lv (s6 rfl rfl) (av rfl (d7 ?_))))))
   cases oi al
   exact qd ⟨_, rfl, bQ, rfl, bR, (m.trans bS), bT, (l9 _)⟩
  refine q7 (d4 (d4 ?_))
  cases oi G
  cases ai _ rfl
  refine j5 ?_
  cases oi ag
  exact qd ⟨C, rfl, D.s, m, T⟩
 rintro _ cE ⟨bU, rfl, bV, cF, bW⟩
 refine qr (mv rfl (av rfl (nq (i9 ?_))))
 cases oi ae
 exact ey results188 ⟨bU, rfl, bV, bW⟩

theorem a18 {q0 : z2} {q1 : k6} {r : Int} (hS : SH w K [] w K []) (bv : b7 E1 K A a b q0.Docs) (x : b7 z6 K B c d q0.Entries) (bz : q1.length ≤ maxLen) (hm : Z0 F q0 q1 = some r) :
  Calls prog 189 #[.agg #[V3 A a b, V3 B c d], sv q1] w (R_i w K r) := by
 rw [Z0] at hm
 refine ci func189 rfl ntmps189 (sr (bx rfl hS fun i bA X => ?_))
 have Y : SH _ _ _ _ _ [q8 i [V3 A a b, V3 B c d] 46] := X
 refine lv (L3 rfl) (nr (lv (L3 rfl) (P6 (lv (L3 rfl) (nq ?_)))))
 obtain ⟨O, aa, ab⟩ := ob hm
 refine j4 (IW w K [] K [(5, V6 O)] [] (d9 O)) ?_ ?_
 ·refine i5 ?_
  obtain ⟨bB, ac, ad⟩ := ob aa
  refine qw (fun (k : Int × Int) => IW w K [] K [(1, sv q1), (2, pt i), (5, V6 k.1), (6, V6 k.2)] [q8 i [V3 A a b, V3 B c d] 46] (d9 k.1 ∧ d9 k.2)) ac ⟨K, rfl, Y, kr, I0, I0⟩ ?_
  rintro k _ bC bD ae af ⟨y, rfl, C, m, R, bE⟩
  refine k8 (sr (mv rfl (fl G3 rfl W8 m0 C rfl (lv (k9 underlying44 rfl (x.mono m)) (lv (n8 rfl rfl) (nq (B5 ae rfl (fun ag D => ?_) (fun ag D => ?_))))))))
  ·refine i6 (qs (i5 (sr (lv (L3 rfl) (nq ?_)))))
   obtain ⟨S, ah, ai⟩ := ob D
   refine j4 (IW w K [] y [(1, sv q1), (2, pt i), (5, V6 S), (6, V6 k.2)] [q8 i [V3 A a b, V3 B c d] 46] (d9 S)) ?_ ?_
   ·refine i5 ?_
    obtain ⟨bF, aj, ak⟩ := ob ah
    refine qw (fun (l : Int × Int) => IW w K [] y [(1, sv q1), (2, pt i), (5, V6 l.1), (6, V6 k.2), (7, V6 l.2)] [q8 i [V3 A a b, V3 B c d] 46] (d9 l.1 ∧ d9 l.2)) aj ⟨y, rfl, C, kr, R, I0⟩ ?_
    rintro l _ bG bH al am ⟨G, rfl, o, q, an, bI⟩
    refine k8 (k8 ?_)
    obtain ⟨ao, ap, aq⟩ := ob al
    refine j4 (IV w K [] G [(1, sv q1), (2, pt i), (5, V6 l.1), (6, V6 k.2), (7, V6 l.2), (33, .bool ao)] [q8 i [V3 A a b, V3 B c d] 46]) ?_ ?_
    ·refine i7 (mv rfl (fl G3 rfl W8 m0 o rfl (mv rfl ?_)))
     obtain ⟨T, ar, au⟩ := ob ap
     refine li underlying44 E3 (x.mono (m.trans q)) ar fun aw ax bJ ay az => ?_
     obtain ⟨aA, aB, aC, rfl, bK, bL, aD⟩ := ay
     have aE : D0 _ aw ax [sv T.Field, sv T.Term, V3 aA aB aC] := az
     refine fa L1 rfl (lv (u0 a2Q rfl o (aE 2 _ rfl)) (lv (k9 underlying57 rfl aD) (lv (n8 rfl rfl) (mv rfl (bt au (fun f H => ?_) (fun f H => ?_))))))
     ·refine lg f (b8 G3 rfl) (lg f (l8 W8 rfl m0 o rfl) (lg f (d6 rfl) ?_))
      obtain ⟨U, aF, aG⟩ := ob H
      refine H1 (t := z6) (wg rfl rfl f) rfl underlying44 E3 rfl rfl (x.mono (m.trans q)) aF fun aH aI bM aJ aK => ?_
      obtain ⟨aL, aM, aN, rfl, bN, bO, bP⟩ := aJ
      have aO : D0 _ aH aI [sv U.Field, sv U.Term, V3 aL aM aN] := aK
      refine lg f (b8 a0l rfl) (lg f (u0 D9 rfl o (aO 0 _ rfl)) (lg f (d6 rfl) (lg f (H0 rfl rfl) (lv (j3 rfl f rfl) (d7 ?_)))))
      cases oi aG
      exact qd ⟨G, rfl, o, kr⟩
     iterate 8 refine lu f ?_
     refine lv (F7 rfl f rfl) (d7 ?_)
     cases oi H
     exact qd ⟨G, rfl, o, kr⟩
    rintro _ bQ ⟨V, rfl, s, I⟩
    refine j6 (B5 aq rfl (fun aP J => ?_) (fun aP J => ?_))
    ·refine i6 (qs (i5 (i7 (mv rfl (fl G3 rfl W8 m0 s rfl (mv rfl ?_))))))
     obtain ⟨W, aQ, aR⟩ := ob J
     refine li underlying44 E3 (x.mono ((m.trans q).trans I)) aQ fun aS aT bR aU aV => ?_
     obtain ⟨aW, aX, aY, rfl, bS, bT, aZ⟩ := aU
     have ba : D0 _ aS aT [sv W.Field, sv W.Term, V3 aW aX aY] := aV
     refine fa L1 rfl (lv (u0 a2Q rfl s (ba 2 _ rfl)) (mv rfl ?_))
     obtain ⟨bb, bc, bd⟩ := ob aR
     refine li underlying57 a1m aZ bc fun be bf bU bg bh => ?_
     obtain ⟨bi, bj, bk, rfl, bV, bl⟩ := bg
     have bm : D0 _ be bf [V6 bb.Doc, V3 bi bj bk] := bh
     refine fa a3t rfl (lv (u0 Y3 rfl s (bm 1 _ rfl)) (lv (k9 underlying55 rfl bl) (lv (s6 rfl rfl) (av rfl (nb (j6 (i7 (mv rfl (lv (s6 rfl rfl) ?_)))))))))
     refine av rfl (d7 ?_)
     cases oi bd
     exact qd ⟨_, rfl, V, rfl, s, (q.trans I), (l9 _), (l9 _)⟩
    refine q7 (d4 (d4 ?_))
    cases oi J
    cases am _ rfl
    refine j5 ?_
    cases oi ak
    exact qd ⟨V, rfl, s, (q.trans I), an⟩
   rintro _ bW ⟨bn, rfl, bo, bp, bq⟩
   refine o0 (j6 (i7 (mv rfl (lv (s6 rfl rfl) (av rfl (d7 ?_))))))
   cases oi ai
   exact qd ⟨_, rfl, bn, rfl, bo, (m.trans bp), bq, (l9 _)⟩
  refine q7 (d4 (d4 ?_))
  cases oi D
  cases af _ rfl
  refine j5 ?_
  cases oi ad
  exact qd ⟨y, rfl, C.s, m, R⟩
 rintro _ bX ⟨br, rfl, bs, bY, bu⟩
 refine qr (mv rfl (av rfl (nq (i9 ?_))))
 cases oi ab
 exact ey results189 ⟨br, rfl, bs, bu⟩

theorem T3 {q0 : z2} {q1 : k6} {q2 : k6} {q3 : Int} {r : Int} (hS : SH w K [] w K []) (l : b7 E1 K A a b q0.Docs) (o : b7 z6 K B c d q0.Entries) (q : q1.length ≤ maxLen) (G : q2.length ≤ maxLen) (ar : d9 q3) (hm : N2 F q0 q1 q2 q3 = some r) :
  Calls prog 142 #[.agg #[V3 A a b, V3 B c d], sv q1, sv q2, V6 q3] w (R_i w K r) := by
 rw [N2] at hm
 refine ci func142 rfl ntmps142 (sr (bx rfl hS fun aO bL ba => ?_))
 have au : SH _ _ _ _ _ [q8 aO [V3 A a b, V3 B c d] 46] := ba
 refine lv (L3 rfl) (nr (lv (l3 (ds := [V3 A a b, V3 B c d]) G0 rfl m0 au rfl rfl) (mv rfl (mv rfl (mv rfl ?_)))))
 obtain ⟨bM, bb, bc⟩ := ob hm
 refine lk b5r (a3z F au.enter0 l o q G ar bb) ?_
 rintro bN bO ⟨bP, bQ, bR, aw, rfl, i, D⟩
 have aP := (au.c0 i).t1
 refine lv (k9 underlying55 rfl D) (av rfl (P6 (mv rfl (lv (u3 rfl rfl) (nq (B5 bc rfl (fun bd ax => ?_) (fun bd ax => ?_)))))))
 ·refine sr (lv (L3 rfl) (nq (rr ?_)))
  cases oi ax
  exact ey results142 ⟨aw, rfl, aP.s, I0⟩
 refine i6 (qs ?_)
 obtain ⟨X, be, bf⟩ := ob ax
 refine j4 (fun E' w' => ∃ ay Y, E' = [(10, pt ay)] ∧ SH w K [] w' Y [q8 ay [V6 X.Up, V6 X.Down] 73] ∧ H6 aw Y ∧ d9 X.Up ∧ d9 X.Down) ?_ ?_
 ·obtain ⟨bS, aQ, bg⟩ := ob be
  obtain ⟨bT, az, bh⟩ := ob bg
  obtain ⟨bU, aa, bi⟩ := ob bh
  obtain ⟨s, H, I⟩ := ob bi
  have J := aP.drew
  refine j_0 (fun w' => E7 aw w' ∧ y7 aO [V3 A a b, V3 B c d] w') 19 [] mixed ⟨J.hasK kr, J.hasObj m0⟩ (jv 0 rfl (d6 rfl) (jh 1 rfl (fun _ h => B2 (ds := [V3 A a b, V3 B c d]) G0 rfl rfl rfl h.2) (jv 2 rfl (d6 rfl) (jv 3 rfl (d6 rfl) (jh 5 rfl (fun _ h => B2 (ds := [V3 A a b, V3 B c d]) G0 rfl rfl rfl h.2) (jv 6 rfl (d6 rfl) (jv 8 rfl (b8 a03 rfl) (jh 9 rfl (fun _ h => y2 a5w rfl rfl h.2) (jv 10 rfl (k9 underlying35 rfl (l.mono i.le)) ?_)))))))))
  refine jh 11 rfl (fun _ h => B2 (ds := [V3 A a b, V3 B c d]) G0 rfl rfl rfl h.2) (jv 12 rfl (d6 rfl) (jv 13 rfl (d6 rfl) (j2 4 17 rfl rfl ?_ ?_)))
  ·refine lk b7w (a4X F J.enter0 (l.mono i.le) (o.mono i.le) q ar aQ) ?_
   rintro bV bW ⟨bX, rfl, f, ab⟩
   have O := (J.c0 f).t1
   refine W2 ⟨O.hasK f.le, O.hasObj m0⟩ (j2 7 17 rfl rfl ?_ ?_)
   ·refine lk b5s (a18 F O.enter0 (l.mono (i.le.trans f.le)) (o.mono (i.le.trans f.le)) q az) ?_
    rintro bY bZ ⟨ca, rfl, k, aA⟩
    have R := (O.c0 k).t1
    refine W2 ⟨R.hasK (f.le.trans k.le), R.hasObj m0⟩ (j2 14 17 rfl rfl ?_ ?_)
    ·refine lk b1v (Z7 F R.enter0 (l.mono ((i.le.trans f.le).trans k.le)) (o.mono ((i.le.trans f.le).trans k.le)) q G aa) ?_
     rintro cb cc ⟨cd, ce, cf, cg, rfl, x, aB⟩
     have S := (R.c0 x).t1
     refine W2 ⟨S.hasK ((f.le.trans k.le).trans x.le), S.hasObj m0⟩ (jv 15 rfl (k9 underlying57 rfl aB) (j2 16 17 rfl rfl ?_ ?_))
     ·refine lk b1w (Z5 F S.enter0 D.rn ab aA (l.mono i.le).rn aB.rn H) ?_
      rintro ch cj ⟨bj, rfl, T, bk, bl⟩
      have aC := (S.c0 T).t1
      refine W2 ⟨aC.hasK (((f.le.trans k.le).trans x.le).trans T.le), aC.hasObj m0⟩ (j1 17 rfl (al W5 aC fun aR ck bm => ?_))
      have aD : SH _ _ _ _ _ [q8 aR [V6 0, V6 0] 73, _] := bm
      refine W2 ⟨aD.hasK (((f.le.trans k.le).trans x.le).trans T.le), aD.hasObj m1⟩ (j1 18 rfl (lw [V6 s.Up, V6 s.Down] W5 aD fun cl aE => (W2 ⟨aE.hasK (((f.le.trans k.le).trans x.le).trans T.le), aE.hasObj m1⟩ (jd ?_))))
      cases oi I
      exact qd ⟨aR, bj, rfl, aE.s, (((f.le.trans k.le).trans x.le).trans T.le), bk, bl⟩
     refine al W5 S fun aS cm bn => ?_
     have ac : SH _ _ _ _ _ [q8 aS [V6 0, V6 0] 73, _] := bn
     refine W2 ⟨ac.hasK ((f.le.trans k.le).trans x.le), ac.hasObj m1⟩ (j1 16 rfl (lk b1w (Z5 F ac.enter0 D.rn ab aA (l.mono i.le).rn aB.rn H) ?_))
     rintro cn cp ⟨bo, rfl, ad, bp, bq⟩
     have aF := (ac.c0 ad).t2
     refine W2 ⟨aF.hasK (((f.le.trans k.le).trans x.le).trans ad.le), aF.hasObj m1⟩ (j1 18 rfl (lw [V6 s.Up, V6 s.Down] W5 aF fun cq aG => (W2 ⟨aG.hasK (((f.le.trans k.le).trans x.le).trans ad.le), aG.hasObj m1⟩ (jd ?_))))
     cases oi I
     exact qd ⟨aS, bo, rfl, aG.s, (((f.le.trans k.le).trans x.le).trans ad.le), bp, bq⟩
    refine al W5 R fun aT cr br => ?_
    have ae : SH _ _ _ _ _ [q8 aT [V6 0, V6 0] 73, _] := br
    refine W2 ⟨ae.hasK (f.le.trans k.le), ae.hasObj m1⟩ (j1 14 rfl (lk b1v (Z7 F ae.enter0 (l.mono ((i.le.trans f.le).trans k.le)) (o.mono ((i.le.trans f.le).trans k.le)) q G aa) ?_))
    rintro cs ct ⟨cu, cv, cw, cx, rfl, U, aU⟩
    have af := (ae.c0 U).t2
    refine W2 ⟨af.hasK ((f.le.trans k.le).trans U.le), af.hasObj m1⟩ (jv 15 rfl (k9 underlying57 rfl aU) (j1 16 rfl (lk b1w (Z5 F af.enter0 D.rn ab aA (l.mono i.le).rn aU.rn H) ?_)))
    rintro cy cz ⟨bs, rfl, ag, bu, bv⟩
    have aH := (af.c0 ag).t2
    refine W2 ⟨aH.hasK (((f.le.trans k.le).trans U.le).trans ag.le), aH.hasObj m1⟩ (j1 18 rfl (lw [V6 s.Up, V6 s.Down] W5 aH fun cA aI => (W2 ⟨aI.hasK (((f.le.trans k.le).trans U.le).trans ag.le), aI.hasObj m1⟩ (jd ?_))))
    cases oi I
    exact qd ⟨aT, bs, rfl, aI.s, (((f.le.trans k.le).trans U.le).trans ag.le), bu, bv⟩
   refine al W5 O fun aV cB bz => ?_
   have ah : SH _ _ _ _ _ [q8 aV [V6 0, V6 0] 73, _] := bz
   refine W2 ⟨ah.hasK f.le, ah.hasObj m1⟩ (j1 7 rfl (lk b5s (a18 F ah.enter0 (l.mono (i.le.trans f.le)) (o.mono (i.le.trans f.le)) q az) ?_))
   rintro cC cD ⟨cE, rfl, y, bA⟩
   have ai := (ah.c0 y).t2
   refine W2 ⟨ai.hasK (f.le.trans y.le), ai.hasObj m1⟩ (j1 14 rfl (lk b1v (Z7 F ai.enter0 (l.mono ((i.le.trans f.le).trans y.le)) (o.mono ((i.le.trans f.le).trans y.le)) q G aa) ?_))
   rintro cF cG ⟨cH, cI, cJ, cK, rfl, V, aW⟩
   have aj := (ai.c0 V).t2
   refine W2 ⟨aj.hasK ((f.le.trans y.le).trans V.le), aj.hasObj m1⟩ (jv 15 rfl (k9 underlying57 rfl aW) (j1 16 rfl (lk b1w (Z5 F aj.enter0 D.rn ab bA (l.mono i.le).rn aW.rn H) ?_)))
   rintro cL cM ⟨bB, rfl, ak, bC, bD⟩
   have aJ := (aj.c0 ak).t2
   refine W2 ⟨aJ.hasK (((f.le.trans y.le).trans V.le).trans ak.le), aJ.hasObj m1⟩ (j1 18 rfl (lw [V6 s.Up, V6 s.Down] W5 aJ fun cN aK => (W2 ⟨aK.hasK (((f.le.trans y.le).trans V.le).trans ak.le), aK.hasObj m1⟩ (jd ?_))))
   cases oi I
   exact qd ⟨aV, bB, rfl, aK.s, (((f.le.trans y.le).trans V.le).trans ak.le), bC, bD⟩
  refine al W5 J fun aX cO bE => ?_
  have am : SH _ _ _ _ _ [q8 aX [V6 0, V6 0] 73, _] := bE
  refine W2 ⟨am.hasK kr, am.hasObj m1⟩ (j1 4 rfl (lk b7w (a4X F am.enter0 (l.mono i.le) (o.mono i.le) q ar aQ) ?_))
  rintro cP cQ ⟨cR, rfl, m, bF⟩
  have an := (am.c0 m).t2
  refine W2 ⟨an.hasK m.le, an.hasObj m1⟩ (j1 7 rfl (lk b5s (a18 F an.enter0 (l.mono (i.le.trans m.le)) (o.mono (i.le.trans m.le)) q az) ?_))
  rintro cS cT ⟨cU, rfl, C, bG⟩
  have ao := (an.c0 C).t2
  refine W2 ⟨ao.hasK (m.le.trans C.le), ao.hasObj m1⟩ (j1 14 rfl (lk b1v (Z7 F ao.enter0 (l.mono ((i.le.trans m.le).trans C.le)) (o.mono ((i.le.trans m.le).trans C.le)) q G aa) ?_))
  rintro cV cW ⟨cX, cY, cZ, da, rfl, W, aY⟩
  have ap := (ao.c0 W).t2
  refine W2 ⟨ap.hasK ((m.le.trans C.le).trans W.le), ap.hasObj m1⟩ (jv 15 rfl (k9 underlying57 rfl aY) (j1 16 rfl (lk b1w (Z5 F ap.enter0 D.rn bF bG (l.mono i.le).rn aY.rn H) ?_)))
  rintro db dc ⟨bH, rfl, aq, bI, bJ⟩
  have aL := (ap.c0 aq).t2
  refine W2 ⟨aL.hasK (((m.le.trans C.le).trans W.le).trans aq.le), aL.hasObj m1⟩ (j1 18 rfl (lw [V6 s.Up, V6 s.Down] W5 aL fun dd aM => (W2 ⟨aM.hasK (((m.le.trans C.le).trans W.le).trans aq.le), aM.hasObj m1⟩ (jd ?_))))
  cases oi I
  exact qd ⟨aX, bH, rfl, aM.s, (((m.le.trans C.le).trans W.le).trans aq.le), bI, bJ⟩
 rintro _ de ⟨ay, Y, rfl, aN, df, dg, dh⟩
 refine qr (fl b0N rfl D8 m0 aN rfl (lv (I9 rfl rfl) (fl a6T rfl D8 m0 aN rfl ?_)))
 obtain ⟨di, aZ, bK⟩ := ob bf
 refine lv (a2d rfl rfl aZ) (av rfl (nq (i9 ?_)))
 cases oi bK
 exact ey results142 ⟨Y, rfl, aN.s, (a1V aZ)⟩

theorem a4k {q0 : List k6} {q1 : k6} {r : k6} (hS : SH w K [] w K []) (m : b7 B8 K A a b q0) (ak : q1.length ≤ maxLen) (hm : V1 F q0 q1 = some r) :
  Calls prog 195 #[V3 A a b, sv q1] w fun e w' => ∃ K', e = .returned (sv r) ∧ SH w K [] w' K' [] ∧ r.length ≤ maxLen := by
 rw [V1] at hm
 refine ci func195 rfl ntmps195 (sr (lv (r_s rfl) (nr (lv (r_s rfl) (P6 (lv (L3 rfl) (nq ?_)))))))
 obtain ⟨o, D, G⟩ := ob hm
 refine j4 (IW w K [] K [(5, sv o)] [] (o.length ≤ maxLen)) ?_ ?_
 ·refine i5 ?_
  obtain ⟨al, H, I⟩ := ob D
  refine qw (fun (c : k6 × Int) => IW w K [] K [(0, V3 A a b), (1, sv q1), (5, sv c.1), (6, V6 c.2)] [] (c.1.length ≤ maxLen ∧ d9 c.2)) H ⟨K, rfl, hS, kr, (by decide : ([] : k6).length ≤ maxLen), I0⟩ ?_
  rintro c _ am an J O ⟨d, rfl, i, f, q, ao⟩
  refine k8 (sr (mv rfl (mv rfl (lv (k9 underlying23 rfl (m.mono f)) (lv (n8 rfl rfl) (nq (B5 J rfl (fun R k => ?_) (fun R k => ?_))))))))
  ·refine i6 (qs (i5 (k8 (sr (mv rfl (lv (E5 rfl rfl) (nq ?_)))))))
   obtain ⟨s, S, T⟩ := ob k
   refine j4 (IW w K [] d [(0, V3 A a b), (1, sv q1), (5, sv s), (6, V6 c.2)] [] (s.length ≤ maxLen)) ?_ ?_
   ·refine B5 S rfl (fun U l => ?_) (fun U l => ?_)
    ·refine i7 (mv rfl (mv rfl ?_))
     obtain ⟨ap, x, V⟩ := ob l
     refine lv (a8K rfl rfl x) (av rfl (d7 ?_))
     cases oi V
     exact qd ⟨d, rfl, i, kr, (b0V x)⟩
    refine i6 ?_
    cases oi l
    exact qd ⟨d, rfl, i, kr, q⟩
   rintro _ aq ⟨W, rfl, y, B, ar⟩
   refine j6 (i7 (mv rfl (mv rfl (mv rfl ?_))))
   obtain ⟨X, Y, aa⟩ := ob T
   refine li underlying23 D9 (m.mono (f.trans B)) Y fun ab ac au ad ae => ?_
   obtain ⟨rfl, aw⟩ := ad
   have af : D0 _ ab ac [sv X] := ae
   refine lv (u0 D9 rfl y (af 0 _ rfl)) ?_
   obtain ⟨ax, C, ag⟩ := ob aa
   refine lv (a8K rfl rfl C) (av rfl (nb (j6 (i7 (mv rfl (lv (s6 rfl rfl) (av rfl (d7 ?_))))))))
   cases oi ag
   exact qd ⟨_, rfl, W, rfl, y, (f.trans B), (b0V C), (l9 _)⟩
  refine q7 (d4 (d4 ?_))
  cases oi k
  cases O _ rfl
  refine j5 ?_
  cases oi I
  exact qd ⟨d, rfl, i, f, q⟩
 rintro _ ay ⟨K9, rfl, ai, az, aj⟩
 refine qr (mv rfl (av rfl (nq (i9 ?_))))
 cases oi G
 exact ey results195 ⟨K9, rfl, ai, aj⟩

theorem a5D {q0 : Int} {q1 : Int} {r : Int} (hS : SH w K [] w K []) (c : d9 q0) (d : d9 q1) (hm : a0U F q0 q1 = some r) :
  Calls prog 246 #[V6 q0, V6 q1] w (R_i w K r) := by
 rw [a0U] at hm
 refine ci func246 rfl ntmps246 (sr (lv (L3 rfl) (P6 (mv rfl (mv rfl (lv (n8 rfl rfl) (nq (S3 rfl (fun a => ?_) (fun a => ?_)))))))))
 ·have b := a1R a hm
  refine sr (mv rfl (av rfl (nq (rr ?_))))
  cases oi b
  exact ey results246 ⟨K, rfl, hS, c⟩
 have b := a1Q a hm
 refine i6 (qr (mv rfl (av rfl (nq (i9 ?_)))))
 cases oi b
 exact ey results246 ⟨K, rfl, hS, d⟩

theorem a5C {q0 : k6} {q1 : k6} {r : Int} (hS : SH w K [] w K []) (ck : q0.length ≤ maxLen) (cl : q1.length ≤ maxLen) (hm : a1O F q0 q1 = some r) :
  Calls prog 196 #[sv q0, sv q1] w (R_i w K r) := by
 rw [a1O] at hm
 refine ci func196 rfl ntmps196 (sr (lv (L3 rfl) (nr (mv rfl (lv (F1 underlying9 rfl) (lv (s6 rfl rfl) ?_))))))
 obtain ⟨x3, aw, h5⟩ := ob hm
 refine b30 (t := B7) wn rfl underlying55 D8 rfl rfl rfl aw ⟨rfl, I0⟩ hS fun b cs7 w8 hmx11 hrow9 ay => ?_
 obtain ⟨m12, hm13⟩ : ∃ m, m = x3.length := ⟨_, rfl⟩
 rw [← hm13] at hmx11
 rw [← hm13]
 refine av rfl (P6 (lv (L3 rfl) (nq ?_)))
 obtain ⟨aa, az, aA⟩ := ob h5
 refine j4 (fun E' w' => ∃ cs21 o, E' = [(0, sv q0), (1, sv q1), (5, V3 (some ⟨b, 0, none⟩) m12 m12)] ∧ SH w K [] w' o [q8 b cs21 3] ∧ H6 K o ∧ A4 true B7 o cs21 aa ∧ m12 = aa.length) ?_ ?_
 ·refine i5 ?_
  obtain ⟨cn, aB, aC⟩ := ob az
  refine qw (fun (k : Int × (List Int)) E' w' => ∃ cs33 s, E' = [(0, sv q0), (1, sv q1), (5, V3 (some ⟨b, 0, none⟩) m12 m12), (6, V6 k.1)] ∧ SH w K [] w' s [q8 b cs33 3] ∧ H6 K s ∧ d9 k.1 ∧ A4 true B7 s cs33 k.2 ∧ m12 = k.2.length) aB ⟨cs7, K, rfl, ay, kr, I0, hrow9, hm13⟩ ?_
  rintro k _ cp cq aD aE ⟨cs33, s, rfl, ab, ac, aF, hrow34, hm35⟩
  refine k8 (sr (mv rfl (mv rfl (lv (F1 underlying9 rfl) (lv (R9 rfl rfl) (nq (B5 aD rfl (fun aG I => ?_) (fun aG I => ?_))))))))
  ·refine i6 (qs (i5 (i7 (mv rfl (mv rfl (mv rfl ?_))))))
   obtain ⟨aH, J, aI⟩ := ob I
   obtain ⟨cr, aJ, aK⟩ := A4.at hrow34 J
   obtain ⟨rfl, cs⟩ := aJ
   have ct : ∀ (j : Nat) (d : Value), [V6 aH][j]? = some d → cs33[k.1.toNat * B7.size + j]? = some d := aK
   refine lv (G2 (t := B7) underlying55 D8 rfl rfl hm35 J) (a1G (t := B7) (v := V6 k.1) (e := k.1) wn D8 rfl rfl ⟨rfl, aF⟩ ab hrow34 J fun cs49 cu hrow51 aL => ?_)
   have hm53 := hm35.trans (List.length_set (i := k.1.toNat) (a := k.1)).symm
   refine nb (j6 (i7 (mv rfl (lv (s6 rfl rfl) (av rfl (d7 ?_))))))
   cases oi aI
   exact qd ⟨_, rfl, cs49, s, rfl, aL, ac, (l9 _), hrow51, hm53⟩
  refine q7 (d4 (d4 ?_))
  cases oi I
  cases aE _ rfl
  refine j5 ?_
  cases oi aC
  exact qd ⟨cs33, s, rfl, ab, ac, hrow34, hm35⟩
 rintro _ cv ⟨cs21, o, rfl, aM, cw, hrow22, hm23⟩
 refine qs (sr (lv (L3 rfl) (nq ?_)))
 obtain ⟨ad, aN, aO⟩ := ob aA
 refine j4 (fun E' w' => ∃ cs62 B, E' = [(1, sv q1), (5, V3 (some ⟨b, 0, none⟩) m12 m12)] ∧ SH w K [] w' B [q8 b cs62 3] ∧ H6 o B ∧ A4 true B7 B cs62 ad ∧ m12 = ad.length) ?_ ?_
 ·refine i5 ?_
  obtain ⟨cx, aP, aQ⟩ := ob aN
  refine qw (fun (f : Int × (List Int)) E' w' => ∃ cs74 l, E' = [(0, sv q0), (1, sv q1), (5, V3 (some ⟨b, 0, none⟩) m12 m12), (7, V6 f.1)] ∧ SH w K [] w' l [q8 b cs74 3] ∧ H6 o l ∧ d9 f.1 ∧ A4 true B7 l cs74 f.2 ∧ m12 = f.2.length) aP ⟨cs21, o, rfl, aM, kr, I0, hrow22, hm23⟩ ?_
  rintro f _ cy cz aR aS ⟨cs74, l, rfl, O, ae, cA, hrow75, hm76⟩
  refine k8 (sr (mv rfl (mv rfl (lv (F1 underlying9 rfl) (lv (n8 rfl rfl) (nq (B5 aR rfl (fun aT R => ?_) (fun aT R => ?_))))))))
  ·refine i6 (qs (i5 (sr (mv rfl ?_))))
   obtain ⟨aU, af, aV⟩ := ob R
   obtain ⟨cB, aW, aX⟩ := A4.at hrow75 af
   obtain ⟨rfl, aY⟩ := aW
   have aZ : ∀ (j : Nat) (d : Value), [V6 aU][j]? = some d → cs74[(0 : Int).toNat * B7.size + j]? = some d := aX
   refine lv (G2 (t := B7) underlying55 D8 rfl rfl hm76 af) (lv (a0d D8 rfl rfl (aZ 0 _ rfl) (O.hasObj (.head _))) (av rfl (nr (mv rfl (mv rfl (lv (s6 rfl rfl) ?_))))))
   obtain ⟨ba, S, bb⟩ := ob aV
   obtain ⟨cC, bc, bd⟩ := A4.at hrow75 S
   obtain ⟨rfl, cD⟩ := bc
   have cE : ∀ (j : Nat) (d : Value), [V6 ba][j]? = some d → cs74[(0 : Int).toNat * B7.size + j]? = some d := bd
   refine lv (G2 (t := B7) underlying55 D8 rfl rfl hm76 S) (a1G (t := B7) (v := V6 (u6 (f.1 + (1 : Int)))) (e := (u6 (f.1 + (1 : Int)))) wn D8 rfl rfl ⟨rfl, (l9 _)⟩ O hrow75 S fun cs98 cF hrow100 be => ?_)
   have hm102 := hm76.trans (List.length_set (i := (0 : Int).toNat) (a := (u6 (f.1 + (1 : Int))))).symm
   refine nr (lv (L3 rfl) (nq ?_))
   obtain ⟨ag, bf, bg⟩ := ob bb
   refine j4 (fun E' w' => ∃ cs110 C, E' = [(0, sv q0), (1, sv q1), (5, V3 (some ⟨b, 0, none⟩) m12 m12), (7, V6 f.1)] ∧ SH w K [] w' C [q8 b cs110 3] ∧ H6 l C ∧ A4 true B7 C cs110 ag ∧ m12 = ag.length) ?_ ?_
   ·refine i5 ?_
    obtain ⟨cG, bh, bi⟩ := ob bf
    refine qw (fun (c : Int × Int × (List Int)) E' w' => ∃ cs123 D, E' = [(0, sv q0), (1, sv q1), (5, V3 (some ⟨b, 0, none⟩) m12 m12), (7, V6 f.1), (8, V6 c.1), (9, V6 c.2.1)] ∧ SH w K [] w' D [q8 b cs123 3] ∧ H6 l D ∧ d9 c.1 ∧ d9 c.2.1 ∧ A4 true B7 D cs123 c.2.2 ∧ m12 = c.2.2.length) bh ⟨cs98, l, rfl, be, kr, aY, I0, hrow100, hm102⟩ ?_
    rintro c _ cH cI bj bk ⟨cs123, D, rfl, ah, ai, bl, cJ, hrow124, hm125⟩
    refine k8 (sr (mv rfl (mv rfl (lv (F1 underlying9 rfl) (lv (n8 rfl rfl) (nq (B5 bj rfl (fun bm T => ?_) (fun bm T => ?_))))))))
    ·refine i6 (qs (i5 (sr (mv rfl (av rfl (ns (k8 (C2 mixed (by kernel_rfl) ah (km rfl ?_)))))))))
     refine km rfl ?_
     obtain ⟨cK, bn, bo⟩ := ob T
     refine kv (G8 underlying9 rfl rfl bn) (km rfl (km rfl ?_))
     obtain ⟨cL, bp, bq⟩ := ob bo
     refine kv (G8 underlying9 rfl rfl bp) (kv (a44 rfl rfl) (z7 ?_))
     rintro cM ⟨U, aj, x⟩
     refine j6 ?_
     obtain ⟨ak, br, bs⟩ := ob bq
     refine j4 (IW w K [] U [(0, sv q0), (1, sv q1), (5, V3 (some ⟨b, 0, none⟩) m12 m12), (7, V6 f.1), (9, V6 c.2.1), (10, V6 ak)] [q8 b cs123 3] (d9 ak)) ?_ ?_
     ·refine B5 br rfl (fun bu V => ?_) (fun bu V => ?_)
      ·refine i7 (mv rfl (lv (s6 rfl rfl) (av rfl (d7 ?_))))
       cases oi V
       exact qd ⟨U, rfl, aj, kr, (l9 _)⟩
      refine i6 ?_
      cases oi V
      exact qd ⟨U, rfl, aj, kr, bl⟩
     rintro _ cN ⟨bv, rfl, al, y, bx⟩
     refine qr (mv rfl (mv rfl (lv (s6 rfl rfl) ?_)))
     obtain ⟨bz, am, bA⟩ := ob bs
     obtain ⟨cO, bB, bC⟩ := A4.at (A4.mono (x.trans y) hrow124) am
     obtain ⟨rfl, bD⟩ := bB
     have bE : ∀ (j : Nat) (d : Value), [V6 bz][j]? = some d → cs123[(u6 (c.2.1 + (1 : Int))).toNat * B7.size + j]? = some d := bC
     refine lv (G2 (t := B7) underlying55 D8 rfl rfl hm125 am) (lv (a0d D8 rfl rfl (bE 0 _ rfl) (al.hasObj (.head _))) (av rfl (nq ?_)))
     have G := al.drew
     refine wh1 (fun w' => E7 bv w') (fun w' => y7 b cs123 w') 17 [(7, 13), (7, 16), (7, 17), (12, 13), (12, 16), (12, 17), (13, 14), (13, 15), (13, 16), (13, 17), (14, 15), (14, 16), (14, 17), (15, 16), (15, 17), (16, 17)] mixed (G.hasK kr) (fun _ => G.hasObj (.head _)) (gt (d6 rfl) (gt (d6 rfl) (gt (s6 rfl rfl) (gt (d6 rfl) (gt (d6 rfl) (gt (d6 rfl) ?_))))))
     obtain ⟨bF, an, bG⟩ := ob bA
     obtain ⟨cP, bH, bI⟩ := A4.at (A4.mono (x.trans y) hrow124) an
     obtain ⟨rfl, bJ⟩ := bH
     have bK : ∀ (j : Nat) (d : Value), [V6 bF][j]? = some d → cs123[c.2.1.toNat * B7.size + j]? = some d := bI
     refine gt (G2 (t := B7) underlying55 D8 rfl rfl hm125 an) (gf (fun _ h => (a0d D8 rfl rfl (bK 0 _ rfl) h)) (gt (d6 rfl) (gt (d6 rfl) (gt (s6 rfl rfl) ?_))))
     obtain ⟨bL, ao, bM⟩ := ob bG
     obtain ⟨cQ, bN, bO⟩ := A4.at (A4.mono (x.trans y) hrow124) ao
     obtain ⟨rfl, bP⟩ := bN
     have bQ : ∀ (j : Nat) (d : Value), [V6 bL][j]? = some d → cs123[(u6 (c.2.1 + (1 : Int))).toNat * B7.size + j]? = some d := bO
     refine gt (G2 (t := B7) underlying55 D8 rfl rfl hm125 ao) (gf (fun _ h => (a0d D8 rfl rfl (bQ 0 _ rfl) h)) (gn ?_))
     obtain ⟨cR, bR, bS⟩ := ob bM
     refine lk b7C (a5D F G.enter0 bJ bP bR) ?_
     rintro cS cT ⟨cU, rfl, q, cV⟩
     have H := (G.c0 q).t1
     refine d7 (qh (H.hasK q.le) (fun _ => H.hasObj (.head _)) (gt (s6 rfl rfl) (gn ?_)))
     obtain ⟨W, bT, bU⟩ := ob bS
     refine lk b7C (a5D F H.enter0 bx (l9 _) bT) ?_
     rintro cW cX ⟨bV, rfl, A, bW⟩
     have X := (H.c0 A).t1
     refine d7 (qh (X.hasK (q.le.trans A.le)) (fun _ => X.hasObj (.head _)) ?_)
     obtain ⟨bX, Y, bY⟩ := ob bU
     obtain ⟨cY, bZ, ca⟩ := A4.at (A4.mono (((x.trans y).trans q.le).trans A.le) hrow124) Y
     obtain ⟨rfl, cZ⟩ := bZ
     have da : ∀ (j : Nat) (d : Value), [V6 bX][j]? = some d → cs123[(u6 (c.2.1 + (1 : Int))).toNat * B7.size + j]? = some d := ca
     refine gt (G2 (t := B7) underlying55 D8 rfl rfl hm125 Y) (gn (a1G (t := B7) (v := V6 W) (e := W) wn D8 rfl rfl ⟨rfl, bW⟩ X (A4.mono (((x.trans y).trans q.le).trans A.le) hrow124) Y fun cs203 db hrow205 ap => ?_))
     have hm207 := hm125.trans (List.length_set (i := (u6 (c.2.1 + (1 : Int))).toNat) (a := W)).symm
     refine d7 (qh (ap.hasK (q.le.trans A.le)) (fun h => nomatch h) (gd' (o0 (j6 (i7 (mv rfl (lv (s6 rfl rfl) (av rfl (d7 ?_)))))))))
     cases oi bY
     exact qd ⟨_, rfl, cs203, bV, rfl, ap, ((((ai.trans x).trans y).trans q.le).trans A.le), bD, (l9 _), hrow205, hm207⟩
    refine q7 (d4 (d4 ?_))
    cases oi T
    cases bk _ rfl
    refine j5 ?_
    cases oi bi
    exact qd ⟨cs123, D, rfl, ah, ai, hrow124, hm125⟩
   rintro _ dc ⟨cs110, C, rfl, cb, cc, hrow111, hm112⟩
   refine o0 (j6 (i7 (mv rfl (lv (s6 rfl rfl) (av rfl (d7 ?_))))))
   cases oi bg
   exact qd ⟨_, rfl, cs110, C, rfl, cb, (ae.trans cc), (l9 _), hrow111, hm112⟩
  refine q7 (d4 (d4 ?_))
  cases oi R
  cases aS _ rfl
  refine j5 ?_
  cases oi aQ
  exact qd ⟨cs74, l, rfl, O, ae, hrow75, hm76⟩
 rintro _ dd ⟨cs62, B, rfl, aq, de, hrow63, hm64⟩
 refine qr (mv rfl (mv rfl (lv (F1 underlying9 rfl) ?_)))
 obtain ⟨cd, ar, ce⟩ := ob aO
 obtain ⟨df, cf, cg⟩ := A4.at hrow63 ar
 obtain ⟨rfl, ch⟩ := cf
 have cj : ∀ (j : Nat) (d : Value), [V6 cd][j]? = some d → cs62[(q1.length : Int).toNat * B7.size + j]? = some d := cg
 refine lv (G2 (t := B7) underlying55 D8 rfl rfl hm64 ar) (lv (a0d D8 rfl rfl (cj 0 _ rfl) (aq.hasObj (.head _))) (av rfl (nq (i9 ?_))))
 cases oi ce
 exact ey results196 ⟨B, rfl, aq.s, ch⟩

theorem a9i (F : Nat) : ∀ {w : World} {K : C5} {q0 : k6} {q1 : k6} {r : Bool} (hS : SH w K [] w K []) (k : q0.length ≤ maxLen) (l : q1.length ≤ maxLen) (hm : L2 F q0 q1 = some r),
  Calls prog 197 #[sv q0, sv q1] w (R_b w K r) := by
 induction F with
 | zero => intros; rename_i hm; rw [L2] at hm; cases hm
 | succ F ih =>
  intro w K q0 q1 r hS k l hm
  rw [L2] at hm
  refine ci func197 rfl ntmps197 (sr (lv (M7 rfl) (P6 (mv rfl (lv (H0 (r := ([] : k6)) rfl rfl) (nq (S3 rfl (fun q => ?_) (fun q => ?_))))))))
  ·have s := a1R q hm
   refine sr (mv rfl (lv (H0 (r := ([] : k6)) rfl rfl) (av rfl (nq (rr ?_)))))
   cases oi s
   exact ey results197 ⟨K, rfl, hS⟩
  have s := a1Q q hm
  refine i6 (qs (sr (mv rfl ?_)))
  obtain ⟨x5, U, V⟩ := ob s
  refine lv (G8 underlying9 rfl rfl U) (lv (a5U (b := (42 : UInt8)) rfl rfl) (nq (B5 V rfl (fun W x => ?_) (fun W x => ?_))))
  ·refine k8 ?_
   obtain ⟨X, Y, aa⟩ := ob x
   refine j4 (IV w K [] K [(4, .bool X)] []) ?_ ?_
   ·refine i7 (mv rfl ?_)
    obtain ⟨aO, G, ab⟩ := ob Y
    refine lv (T5 underlying9 rfl rfl G) (mv rfl ?_)
    obtain ⟨aP, ac, ad⟩ := ob ab
    refine lk b1x (ih hS.enter0 (Y0 k G) l ac) ?_
    rintro aQ aR ⟨H, rfl, m⟩
    have o := (hS.c0 m).t0
    refine mv rfl (bt ad (fun c y => ?_) (fun c y => ?_))
    ·refine lu c (lu c (lu c (u1 (uu rfl rfl) rfl (u1 (uu rfl rfl) rfl (u1 (uu rfl rfl) rfl (u1 (uu rfl rfl) rfl (lu c (lv (K5 rfl c rfl) (av rfl ?_)))))))))
     refine d7 ?_
     cases oi y
     exact qd ⟨H, rfl, o, m.le⟩
    refine lg c (d6 rfl) (lg c (a0o (r := ([] : k6)) rfl rfl) (lg c (d6 rfl) (bt y (fun d A => ?_) (fun d A => ?_))))
    ·refine lg d (d6 rfl) (lg d (d6 rfl) ?_)
     obtain ⟨ae, I, af⟩ := ob A
     refine lg d (T5 underlying9 rfl rfl I) ?_
     obtain ⟨aS, ag, ah⟩ := ob af
     refine x9 (wg rfl rfl d) rfl (x8 (vs := [sv q0, sv ae]) b1x rfl) (ih o.enter0 k (Y0 l I) ag) ?_
     rintro aT aU ⟨ai, rfl, J⟩
     refine ⟨_, rfl, ?_⟩
     have aj := (o.c0 J).t0
     refine lg c (j3 rfl d rfl) (lv (j9 rfl c rfl) (av rfl (d7 ?_)))
     cases oi ah
     exact qd ⟨ai, rfl, aj, (m.le.trans J.le)⟩
    refine lu d (lu d (lu d (lu d (lg c (F7 rfl d rfl) (lv (j9 rfl c rfl) (av rfl (d7 ?_)))))))
    cases oi A
    exact qd ⟨H, rfl, o, m.le⟩
   rintro _ aV ⟨ak, rfl, al, aW⟩
   refine j6 (rr ?_)
   cases oi aa
   exact ey results197 ⟨ak, rfl, al⟩
  refine i6 (qs (C2 mixed (by kernel_rfl) hS (km rfl (kv (a0o (r := ([] : k6)) rfl rfl) (km rfl (bt x (fun a B => ?_) (fun a B => ?_)))))))
  ·refine kg a (d6 rfl) ?_
   obtain ⟨aX, am, an⟩ := ob B
   refine kg a (G8 underlying9 rfl rfl am) (kg a (a5U (b := (63 : UInt8)) rfl rfl) (kg a (d6 rfl) (bt an (fun f C => ?_) (fun f C => ?_))))
   ·iterate 5 refine kn f ?_
    refine kg a (K5 rfl f rfl) (kv (j3 rfl a rfl) (km rfl (kg rfl (d6 rfl) ?_)))
    obtain ⟨aY, O, ao⟩ := ob C
    refine kg rfl (T5 underlying9 rfl rfl O) (kg rfl (d6 rfl) ?_)
    obtain ⟨aZ, R, ap⟩ := ob ao
    refine kg rfl (T5 underlying9 rfl rfl R) ?_
    obtain ⟨ba, aq, ar⟩ := ob ap
    refine kcg rfl b1x (fun _ _ au bb => ih au.enter0 (Y0 k O) (Y0 l R) aq) (kv (j3 rfl rfl rfl) (kv (r9 rfl) (z7 ?_)))
    rintro u6 ⟨aw, ax, bc⟩
    refine j6 (i9 ?_)
    cases oi ar
    exact ey results197 ⟨aw, rfl, ax⟩
   refine kg f (d6 rfl) ?_
   obtain ⟨bd, ay, az⟩ := ob C
   refine kg f (G8 underlying9 rfl rfl ay) (kg f (d6 rfl) ?_)
   obtain ⟨be, aA, aB⟩ := ob az
   refine kg f (G8 underlying9 rfl rfl aA) (kg f (a5U rfl rfl) (kg a (j9 rfl f rfl) (kv (j3 rfl a rfl) (km rfl (bt aB (fun i D => ?_) (fun i D => ?_))))))
   ·refine kg i (d6 rfl) ?_
    obtain ⟨bf, S, aC⟩ := ob D
    refine kg i (T5 underlying9 rfl rfl S) (kg i (d6 rfl) ?_)
    obtain ⟨bg, T, aD⟩ := ob aC
    refine kg i (T5 underlying9 rfl rfl T) ?_
    obtain ⟨bh, aE, aF⟩ := ob aD
    refine kcg i b1x (fun _ _ aG bi => ih aG.enter0 (Y0 k S) (Y0 l T) aE) (kv (j3 rfl i rfl) (kv (r9 rfl) (z7 ?_)))
    rintro bj ⟨aH, aI, bk⟩
    refine j6 (i9 ?_)
    cases oi aF
    exact ey results197 ⟨aH, rfl, aI⟩
   iterate 5 refine kn i ?_
   refine kv (F7 rfl i rfl) (kv (r9 rfl) (z7 ?_))
   rintro bl ⟨aJ, aK, bm⟩
   refine j6 (i9 ?_)
   cases oi D
   exact ey results197 ⟨aJ, rfl, aK⟩
  refine kn a (kn a (kn a (kn a ?_)))
  iterate 5 refine ku ?_
  refine kn a (kv (F7 rfl a rfl) (km rfl ?_))
  iterate 5 refine qv rfl rfl rfl rfl ?_
  refine kv (F7 rfl rfl rfl) (kv (r9 rfl) (z7 ?_))
  rintro bn ⟨aL, aM, bo⟩
  refine j6 (i9 ?_)
  cases oi B
  exact ey results197 ⟨aL, rfl, aM⟩

theorem a8e {q0 : z2} {q1 : r5} {q2 : Int} {r : Bool} (hS : SH w K [] w K []) (am : b7 E1 K A a b q0.Docs) (aa : b7 z6 K B c d q0.Entries) (bi : d9 q1.Kind) (an : q1.Field.length ≤ maxLen) (ao : b7 B8 K C f i q1.Words) (bj : d9 q1.From) (bk : d9 q1.To) (bl : b7 E4 K D k l q1.Kids) (ap : d9 q2) (hm : a0v F q0 q1 q2 = some r) :
  Calls prog 151 #[.agg #[V3 A a b, V3 B c d], .agg #[V6 q1.Kind, sv q1.Field, V3 C f i, V6 q1.From, V6 q1.To, V3 D k l], V6 q2] w (R_b w K r) := by
 rw [a0v] at hm
 refine ci func151 rfl ntmps151 (sr (bx rfl hS fun I bm aq => ?_))
 have ar : SH _ _ _ _ _ [q8 I [V3 A a b, V3 B c d] 46] := aq
 refine bx rfl ar fun H bn au => ?_
 have aw : SH _ _ _ _ _ [q8 H [V6 q1.Kind, sv q1.Field, V3 C f i, V6 q1.From, V6 q1.To, V3 D k l] 42, _] := au
 refine lv (M7 rfl) (P6 (lv (L3 rfl) (nq ?_)))
 obtain ⟨ax, ay, X⟩ := ob hm
 refine j4 (IE ax w K [] K [] []) ?_ ?_
 ·refine i5 ?_
  obtain ⟨bo, az, af⟩ := ob ay
  refine qw (fun (Y : Int) => IW w K [] K [(2, V6 q2), (3, pt I), (4, pt H), (7, V6 Y)] [q8 I [V3 A a b, V3 B c d] 46, q8 H [V6 q1.Kind, sv q1.Field, V3 C f i, V6 q1.From, V6 q1.To, V3 D k l] 42] (d9 Y)) az ⟨K, rfl, aw.f1, kr, I0⟩ ?_
  rintro Y _ bp bq aA ag ⟨U, rfl, V, J, br⟩
  refine k8 (sr (mv rfl (fl G3 rfl W8 m0 V rfl (lv (k9 underlying44 rfl (aa.mono J)) (lv (n8 rfl rfl) (nq (B5 aA rfl (fun aB ab => ?_) (fun aB ab => ?_))))))))
  ·refine i6 (qs (i5 (sr (fl G3 rfl W8 m0 V rfl (mv rfl ?_)))))
   obtain ⟨G, aC, aD⟩ := ob ab
   refine li underlying44 E3 (aa.mono J) aC fun aE aF bs aG aH => ?_
   obtain ⟨O, R, S, rfl, bu, ah, bv⟩ := aG
   have aI : D0 _ aE aF [sv G.Field, sv G.Term, V3 O R S] := aH
   refine lv (D4 E3 rfl V aI rfl) (al E3 V fun W bz aJ => ?_)
   have aK : SH _ _ _ _ _ [q8 W [sv [], sv [], V3 none 0 0] 112, _, _] := aJ
   refine lw [sv G.Field, sv G.Term, V3 O R S] E3 aK fun bA aL => (ns ?_)
   obtain ⟨aM, aN, aO⟩ := ob aD
   refine j4 (IV w K [] U [(2, V6 q2), (3, pt I), (4, pt H), (7, V6 Y), (45, .bool aM)] [q8 I [V3 A a b, V3 B c d] 46, q8 H [V6 q1.Kind, sv q1.Field, V3 C f i, V6 q1.From, V6 q1.To, V3 D k l] 42]) ?_ ?_
   ·refine b1i (fun w' => E7 U w' ∧ y7 W [sv G.Field, sv G.Term, V3 O R S] w' ∧ y7 H [V6 q1.Kind, sv q1.Field, V3 C f i, V6 q1.From, V6 q1.To, V3 D k l] w' ∧ y7 I [V3 A a b, V3 B c d] w') (fun w' => True) 25 [] mixed ?_
    have m := aL.drew
    refine M3 (i := 0) (listed' := L_ 25 0) (fun _ => True) rfl (by kernel_rfl) (g6 (g6 (n9 (g6 (g6 (n9 (g6 (g6 B1)))))))) (by kernel_rfl) rfl (by kernel_rfl) (by kernel_rfl) rfl (.inl fun _ _ => trivial) ⟨⟨m.hasK kr, m.hasObj m0, m.hasObj m2, m.hasObj m1⟩, (fun _ => trivial), by decide⟩ wn rfl (fun _ _ => (b8 a0l rfl)) (M3 (i := 1) (listed' := L_ 25 1) (y7 W [sv G.Field, sv G.Term, V3 O R S]) rfl (by kernel_rfl) (g6 (g6 (n9 (g6 (g6 (n9 (g6 (g6 B1)))))))) (by kernel_rfl) rfl (by kernel_rfl) (by kernel_rfl) rfl (.inl fun _ h => h.2.1) ⟨⟨m.hasK kr, m.hasObj m0, m.hasObj m2, m.hasObj m1⟩, (fun _ => trivial), by decide⟩ wn rfl (fun _ h => y2 D9 rfl rfl h) ?_)
    refine M3 (i := 2) (listed' := L_ 25 2) (fun _ => True) rfl (by kernel_rfl) (g6 (g6 (n9 (g6 (g6 (n9 (g6 (g6 B1)))))))) (by kernel_rfl) rfl (by kernel_rfl) (by kernel_rfl) rfl (.inl fun _ _ => trivial) ⟨⟨m.hasK kr, m.hasObj m0, m.hasObj m2, m.hasObj m1⟩, (fun _ => trivial), by decide⟩ wn rfl (fun _ _ => (b8 Q1 rfl)) (M3 (i := 3) (listed' := L_ 25 3) (y7 H [V6 q1.Kind, sv q1.Field, V3 C f i, V6 q1.From, V6 q1.To, V3 D k l]) rfl (by kernel_rfl) (g6 (g6 (n9 (g6 (g6 (n9 (g6 (g6 B1)))))))) (by kernel_rfl) rfl (by kernel_rfl) (by kernel_rfl) rfl (.inl fun _ h => h.2.2.1) ⟨⟨m.hasK kr, m.hasObj m0, m.hasObj m2, m.hasObj m1⟩, (fun _ => trivial), by decide⟩ wn rfl (fun _ h => y2 D9 rfl rfl h) ?_)
    refine M3 (i := 4) (listed' := L_ 25 4) (fun _ => True) rfl (by kernel_rfl) (g6 (g6 (n9 (g6 (g6 (n9 (g6 (g6 B1)))))))) (by kernel_rfl) rfl (by kernel_rfl) (by kernel_rfl) rfl (.inl fun _ _ => trivial) ⟨⟨m.hasK kr, m.hasObj m0, m.hasObj m2, m.hasObj m1⟩, (fun _ => trivial), by decide⟩ wn rfl (fun _ _ => (H0 rfl rfl)) (M3 (i := 5) (listed' := L_ 25 5) (fun _ => True) rfl (by kernel_rfl) (g6 (g6 (n9 (g6 (g6 (n9 (g6 (g6 B1)))))))) (by kernel_rfl) rfl (by kernel_rfl) (by kernel_rfl) rfl (.inl fun _ _ => trivial) ⟨⟨m.hasK kr, m.hasObj m0, m.hasObj m2, m.hasObj m1⟩, (fun _ => trivial), by decide⟩ wn rfl (fun _ _ => (d6 rfl)) (bt aN (fun x ac => ?_) (fun x ac => ?_)))
    ·refine M3 (i := 6) (listed' := L_ 25 6) (fun _ => True) rfl (by kernel_rfl) (g6 (g6 (n9 (g6 (g6 (n9 (g6 (g6 B1)))))))) (by kernel_rfl) rfl (by kernel_rfl) (by kernel_rfl) rfl (.inl fun _ _ => trivial) ⟨⟨m.hasK kr, m.hasObj m0, m.hasObj m2, m.hasObj m1⟩, (fun _ => trivial), by decide⟩ (wg rfl rfl x) rfl (fun _ _ => (b8 V9 rfl)) (M3 (i := 7) (listed' := L_ 25 7) (y7 H [V6 q1.Kind, sv q1.Field, V3 C f i, V6 q1.From, V6 q1.To, V3 D k l]) rfl (by kernel_rfl) (g6 (g6 (n9 (g6 (g6 (n9 (g6 (g6 B1)))))))) (by kernel_rfl) rfl (by kernel_rfl) (by kernel_rfl) rfl (.inl fun _ h => h.2.2.1) ⟨⟨m.hasK kr, m.hasObj m0, m.hasObj m2, m.hasObj m1⟩, (fun _ => trivial), by decide⟩ (wg rfl rfl x) rfl (fun _ h => y2 O5 rfl rfl h) ?_)
     obtain ⟨ai, aP, aQ⟩ := ob ac
     refine b1j (t := B8) (j := 8) (listed' := L_ 25 8) rfl (by kernel_rfl) (g6 (g6 (n9 (g6 (g6 (n9 (g6 (g6 B1)))))))) (by kernel_rfl) rfl (by kernel_rfl) (by kernel_rfl) rfl ⟨⟨m.hasK kr, m.hasObj m0, m.hasObj m2, m.hasObj m1⟩, (fun _ => trivial), by decide⟩ (wg rfl rfl x) rfl underlying23 D9 rfl rfl (ao.mono J) aP fun aR aS bB aT aU => ?_
     obtain ⟨rfl, aV⟩ := aT
     have aW : D0 _ aR aS [sv ai] := aU
     refine M3 (i := 9) (listed' := L_ 25 9) (E7 U) rfl (by kernel_rfl) (g6 (g6 (n9 (g6 (g6 (n9 (g6 (g6 B1)))))))) (by kernel_rfl) rfl (by kernel_rfl) (by kernel_rfl) rfl (.inl fun _ h => h.1) ⟨⟨m.hasK kr, m.hasObj m0, m.hasObj m2, m.hasObj m1⟩, (fun _ => trivial), by decide⟩ (wg rfl rfl x) rfl (fun _ h => a0M D9 rfl (aW 0 _ rfl) h) (M3 (i := 10) (listed' := L_ 25 10) (fun _ => True) rfl (by kernel_rfl) (g6 (g6 (n9 (g6 (g6 (n9 (g6 (g6 B1)))))))) (by kernel_rfl) rfl (by kernel_rfl) (by kernel_rfl) rfl (.inl fun _ _ => trivial) ⟨⟨m.hasK kr, m.hasObj m0, m.hasObj m2, m.hasObj m1⟩, (fun _ => trivial), by decide⟩ (wg rfl rfl x) rfl (fun _ _ => (b8 X5 rfl)) ?_)
     refine M3 (i := 11) (listed' := L_ 25 11) (y7 W [sv G.Field, sv G.Term, V3 O R S]) rfl (by kernel_rfl) (g6 (g6 (n9 (g6 (g6 (n9 (g6 (g6 B1)))))))) (by kernel_rfl) rfl (by kernel_rfl) (by kernel_rfl) rfl (.inl fun _ h => h.2.1) ⟨⟨m.hasK kr, m.hasObj m0, m.hasObj m2, m.hasObj m1⟩, (fun _ => trivial), by decide⟩ (wg rfl rfl x) rfl (fun _ h => y2 D9 rfl rfl h) (a5W (i := 12) (by kernel_rfl) rfl ?_)
     obtain ⟨bC, aX, aY⟩ := ob aQ
     refine x9 (wg rfl rfl x) rfl (x8 (vs := [sv ai, sv G.Term]) b1x rfl) (a9i F m.enter0 aV ah aX) ?_
     rintro bD bE ⟨aZ, rfl, q⟩
     refine ⟨_, rfl, ?_⟩
     have o := (m.c0 q).t3
     refine d7 (a6x (listed' := L_ 25 12) rfl ⟨⟨o.hasK q.le, o.hasObj m0, o.hasObj m2, o.hasObj m1⟩, (fun _ => trivial), by decide⟩ (M3 (i := 13) (listed' := L_ 25 13) (fun _ => True) rfl (by kernel_rfl) (g6 (g6 (n9 (g6 (g6 (n9 (g6 (g6 B1)))))))) (by kernel_rfl) rfl (by kernel_rfl) (by kernel_rfl) rfl (.inl fun _ _ => trivial) ⟨⟨o.hasK q.le, o.hasObj m0, o.hasObj m2, o.hasObj m1⟩, (fun _ => trivial), by decide⟩ wn rfl (fun _ _ => (j3 rfl x rfl)) ?_))
     refine M3 (i := 14) (listed' := L_ 25 14) (fun _ => True) rfl (by kernel_rfl) (g6 (g6 (n9 (g6 (g6 (n9 (g6 (g6 B1)))))))) (by kernel_rfl) rfl (by kernel_rfl) (by kernel_rfl) rfl (.inl fun _ _ => trivial) ⟨⟨o.hasK q.le, o.hasObj m0, o.hasObj m2, o.hasObj m1⟩, (fun _ => trivial), by decide⟩ wn rfl (fun _ _ => (d6 rfl)) (bt aY (fun s ad => ?_) (fun s ad => ?_))
     ·refine M3 (i := 15) (listed' := L_ 25 15) (y7 I [V3 A a b, V3 B c d]) rfl (by kernel_rfl) (g6 (g6 (n9 (g6 (g6 (n9 (g6 (g6 B1)))))))) (by kernel_rfl) rfl (by kernel_rfl) (by kernel_rfl) rfl (.inl fun _ h => h.2.2.2) ⟨⟨o.hasK q.le, o.hasObj m0, o.hasObj m2, o.hasObj m1⟩, (fun _ => trivial), by decide⟩ (wg rfl rfl s) rfl (fun _ h => B2 (ds := [V3 A a b, V3 B c d]) G0 rfl rfl rfl h) (M3 (i := 16) (listed' := L_ 25 16) (fun _ => True) rfl (by kernel_rfl) (g6 (g6 (n9 (g6 (g6 (n9 (g6 (g6 B1)))))))) (by kernel_rfl) rfl (by kernel_rfl) (by kernel_rfl) rfl (.inl fun _ _ => trivial) ⟨⟨o.hasK q.le, o.hasObj m0, o.hasObj m2, o.hasObj m1⟩, (fun _ => trivial), by decide⟩ (wg rfl rfl s) rfl (fun _ _ => (b8 Q1 rfl)) ?_)
      refine M3 (i := 17) (listed' := L_ 25 17) (y7 H [V6 q1.Kind, sv q1.Field, V3 C f i, V6 q1.From, V6 q1.To, V3 D k l]) rfl (by kernel_rfl) (g6 (g6 (n9 (g6 (g6 (n9 (g6 (g6 B1)))))))) (by kernel_rfl) rfl (by kernel_rfl) (by kernel_rfl) rfl (.inl fun _ h => h.2.2.1) ⟨⟨o.hasK q.le, o.hasObj m0, o.hasObj m2, o.hasObj m1⟩, (fun _ => trivial), by decide⟩ (wg rfl rfl s) rfl (fun _ h => y2 D9 rfl rfl h) (M3 (i := 18) (listed' := L_ 25 18) (fun _ => True) rfl (by kernel_rfl) (g6 (g6 (n9 (g6 (g6 (n9 (g6 (g6 B1)))))))) (by kernel_rfl) rfl (by kernel_rfl) (by kernel_rfl) rfl (.inl fun _ _ => trivial) ⟨⟨o.hasK q.le, o.hasObj m0, o.hasObj m2, o.hasObj m1⟩, (fun _ => trivial), by decide⟩ (wg rfl rfl s) rfl (fun _ _ => (b8 X5 rfl)) ?_)
      refine M3 (i := 19) (listed' := L_ 25 19) (y7 W [sv G.Field, sv G.Term, V3 O R S]) rfl (by kernel_rfl) (g6 (g6 (n9 (g6 (g6 (n9 (g6 (g6 B1)))))))) (by kernel_rfl) rfl (by kernel_rfl) (by kernel_rfl) rfl (.inl fun _ h => h.2.1) ⟨⟨o.hasK q.le, o.hasObj m0, o.hasObj m2, o.hasObj m1⟩, (fun _ => trivial), by decide⟩ (wg rfl rfl s) rfl (fun _ h => y2 D9 rfl rfl h) (M3 (i := 20) (listed' := L_ 25 20) (fun _ => True) rfl (by kernel_rfl) (g6 (g6 (n9 (g6 (g6 (n9 (g6 (g6 B1)))))))) (by kernel_rfl) rfl (by kernel_rfl) (by kernel_rfl) rfl (.inl fun _ _ => trivial) ⟨⟨o.hasK q.le, o.hasObj m0, o.hasObj m2, o.hasObj m1⟩, (fun _ => trivial), by decide⟩ (wg rfl rfl s) rfl (fun _ _ => (d6 rfl)) (a5W (i := 21) (by kernel_rfl) rfl ?_))
      obtain ⟨bF, ba, bb⟩ := ob ad
      refine x9 (wg rfl rfl s) rfl (x8 (vs := [.agg #[V3 A a b, V3 B c d], sv q1.Field, sv G.Term, V6 q2]) b5r rfl) (a3z F o.enter0 (am.mono (J.trans q.le)) (aa.mono (J.trans q.le)) an ah ap ba) ?_
      rintro bG bH ⟨bI, bJ, bK, bc, rfl, T, bd⟩
      refine ⟨_, rfl, ?_⟩
      have y := (o.c0 T).t3
      refine d7 (a6x (listed' := L_ 25 21) rfl ⟨⟨y.hasK (q.le.trans T.le), y.hasObj m0, y.hasObj m2, y.hasObj m1⟩, (fun _ => trivial), by decide⟩ (M3 (i := 22) (listed' := L_ 25 22) (fun _ => True) rfl (by kernel_rfl) (g6 (g6 (n9 (g6 (g6 (n9 (g6 (g6 B1)))))))) (by kernel_rfl) rfl (by kernel_rfl) (by kernel_rfl) rfl (.inl fun _ _ => trivial) ⟨⟨y.hasK (q.le.trans T.le), y.hasObj m0, y.hasObj m2, y.hasObj m1⟩, (fun _ => trivial), by decide⟩ (wg rfl rfl s) rfl (fun _ _ => (k9 underlying55 rfl bd)) ?_))
      refine M3 (i := 23) (listed' := L_ 25 23) (fun _ => True) rfl (by kernel_rfl) (g6 (g6 (n9 (g6 (g6 (n9 (g6 (g6 B1)))))))) (by kernel_rfl) rfl (by kernel_rfl) (by kernel_rfl) rfl (.inl fun _ _ => trivial) ⟨⟨y.hasK (q.le.trans T.le), y.hasObj m0, y.hasObj m2, y.hasObj m1⟩, (fun _ => trivial), by decide⟩ (wg rfl rfl s) rfl (fun _ _ => (E5 rfl rfl)) (M3 (i := 24) (listed' := L_ 25 24) (fun _ => True) rfl (by kernel_rfl) (g6 (g6 (n9 (g6 (g6 (n9 (g6 (g6 B1)))))))) (by kernel_rfl) rfl (by kernel_rfl) (by kernel_rfl) rfl (.inl fun _ _ => trivial) ⟨⟨y.hasK (q.le.trans T.le), y.hasObj m0, y.hasObj m2, y.hasObj m1⟩, (fun _ => trivial), by decide⟩ wn rfl (fun _ _ => (j3 rfl s rfl)) (a6K (by kernel_rfl) ?_))
      cases oi bb
      exact qd ⟨bc, rfl, y.s, (q.le.trans T.le)⟩
     refine a02 (i := 15) (listed' := L_ 25 15) rfl (by kernel_rfl) (g6 (g6 (n9 (g6 (g6 (n9 (g6 (g6 B1)))))))) (by kernel_rfl) rfl (by kernel_rfl) (by kernel_rfl) rfl ⟨⟨o.hasK q.le, o.hasObj m0, o.hasObj m2, o.hasObj m1⟩, (fun _ => trivial), by decide⟩ (ug rfl rfl s) rfl (a02 (i := 16) (listed' := L_ 25 16) rfl (by kernel_rfl) (g6 (g6 (n9 (g6 (g6 (n9 (g6 (g6 B1)))))))) (by kernel_rfl) rfl (by kernel_rfl) (by kernel_rfl) rfl ⟨⟨o.hasK q.le, o.hasObj m0, o.hasObj m2, o.hasObj m1⟩, (fun _ => trivial), by decide⟩ (ug rfl rfl s) rfl ?_)
     refine a02 (i := 17) (listed' := L_ 25 17) rfl (by kernel_rfl) (g6 (g6 (n9 (g6 (g6 (n9 (g6 (g6 B1)))))))) (by kernel_rfl) rfl (by kernel_rfl) (by kernel_rfl) rfl ⟨⟨o.hasK q.le, o.hasObj m0, o.hasObj m2, o.hasObj m1⟩, (fun _ => trivial), by decide⟩ (ug rfl rfl s) rfl (a02 (i := 18) (listed' := L_ 25 18) rfl (by kernel_rfl) (g6 (g6 (n9 (g6 (g6 (n9 (g6 (g6 B1)))))))) (by kernel_rfl) rfl (by kernel_rfl) (by kernel_rfl) rfl ⟨⟨o.hasK q.le, o.hasObj m0, o.hasObj m2, o.hasObj m1⟩, (fun _ => trivial), by decide⟩ (ug rfl rfl s) rfl ?_)
     refine a02 (i := 19) (listed' := L_ 25 19) rfl (by kernel_rfl) (g6 (g6 (n9 (g6 (g6 (n9 (g6 (g6 B1)))))))) (by kernel_rfl) rfl (by kernel_rfl) (by kernel_rfl) rfl ⟨⟨o.hasK q.le, o.hasObj m0, o.hasObj m2, o.hasObj m1⟩, (fun _ => trivial), by decide⟩ (ug rfl rfl s) rfl (a02 (i := 20) (listed' := L_ 25 20) rfl (by kernel_rfl) (g6 (g6 (n9 (g6 (g6 (n9 (g6 (g6 B1)))))))) (by kernel_rfl) rfl (by kernel_rfl) (by kernel_rfl) rfl ⟨⟨o.hasK q.le, o.hasObj m0, o.hasObj m2, o.hasObj m1⟩, (fun _ => trivial), by decide⟩ (ug rfl rfl s) rfl (a5W (i := 21) (by kernel_rfl) rfl (lu s (d7 (a6x (listed' := L_ 25 21) rfl ⟨⟨o.hasK q.le, o.hasObj m0, o.hasObj m2, o.hasObj m1⟩, (fun _ => trivial), by decide⟩ ?_)))))
     refine a02 (i := 22) (listed' := L_ 25 22) rfl (by kernel_rfl) (g6 (g6 (n9 (g6 (g6 (n9 (g6 (g6 B1)))))))) (by kernel_rfl) rfl (by kernel_rfl) (by kernel_rfl) rfl ⟨⟨o.hasK q.le, o.hasObj m0, o.hasObj m2, o.hasObj m1⟩, (fun _ => trivial), by decide⟩ (ug rfl rfl s) rfl (a02 (i := 23) (listed' := L_ 25 23) rfl (by kernel_rfl) (g6 (g6 (n9 (g6 (g6 (n9 (g6 (g6 B1)))))))) (by kernel_rfl) rfl (by kernel_rfl) (by kernel_rfl) rfl ⟨⟨o.hasK q.le, o.hasObj m0, o.hasObj m2, o.hasObj m1⟩, (fun _ => trivial), by decide⟩ (ug rfl rfl s) rfl ?_)
     refine M3 (i := 24) (listed' := L_ 25 24) (fun _ => True) rfl (by kernel_rfl) (g6 (g6 (n9 (g6 (g6 (n9 (g6 (g6 B1)))))))) (by kernel_rfl) rfl (by kernel_rfl) (by kernel_rfl) rfl (.inl fun _ _ => trivial) ⟨⟨o.hasK q.le, o.hasObj m0, o.hasObj m2, o.hasObj m1⟩, (fun _ => trivial), by decide⟩ wn rfl (fun _ _ => (F7 rfl s rfl)) (a6K (by kernel_rfl) ?_)
     cases oi ad
     exact qd ⟨aZ, rfl, o.s, q.le⟩
    refine a02 (i := 6) (listed' := L_ 25 6) rfl (by kernel_rfl) (g6 (g6 (n9 (g6 (g6 (n9 (g6 (g6 B1)))))))) (by kernel_rfl) rfl (by kernel_rfl) (by kernel_rfl) rfl ⟨⟨m.hasK kr, m.hasObj m0, m.hasObj m2, m.hasObj m1⟩, (fun _ => trivial), by decide⟩ (ug rfl rfl x) rfl (a02 (i := 7) (listed' := L_ 25 7) rfl (by kernel_rfl) (g6 (g6 (n9 (g6 (g6 (n9 (g6 (g6 B1)))))))) (by kernel_rfl) rfl (by kernel_rfl) (by kernel_rfl) rfl ⟨⟨m.hasK kr, m.hasObj m0, m.hasObj m2, m.hasObj m1⟩, (fun _ => trivial), by decide⟩ (ug rfl rfl x) rfl ?_)
    refine a02 (i := 8) (listed' := L_ 25 8) rfl (by kernel_rfl) (g6 (g6 (n9 (g6 (g6 (n9 (g6 (g6 B1)))))))) (by kernel_rfl) rfl (by kernel_rfl) (by kernel_rfl) rfl ⟨⟨m.hasK kr, m.hasObj m0, m.hasObj m2, m.hasObj m1⟩, (fun _ => trivial), by decide⟩ (ug rfl rfl x) rfl (a02 (i := 9) (listed' := L_ 25 9) rfl (by kernel_rfl) (g6 (g6 (n9 (g6 (g6 (n9 (g6 (g6 B1)))))))) (by kernel_rfl) rfl (by kernel_rfl) (by kernel_rfl) rfl ⟨⟨m.hasK kr, m.hasObj m0, m.hasObj m2, m.hasObj m1⟩, (fun _ => trivial), by decide⟩ (ug rfl rfl x) rfl ?_)
    refine a02 (i := 10) (listed' := L_ 25 10) rfl (by kernel_rfl) (g6 (g6 (n9 (g6 (g6 (n9 (g6 (g6 B1)))))))) (by kernel_rfl) rfl (by kernel_rfl) (by kernel_rfl) rfl ⟨⟨m.hasK kr, m.hasObj m0, m.hasObj m2, m.hasObj m1⟩, (fun _ => trivial), by decide⟩ (ug rfl rfl x) rfl (a02 (i := 11) (listed' := L_ 25 11) rfl (by kernel_rfl) (g6 (g6 (n9 (g6 (g6 (n9 (g6 (g6 B1)))))))) (by kernel_rfl) rfl (by kernel_rfl) (by kernel_rfl) rfl ⟨⟨m.hasK kr, m.hasObj m0, m.hasObj m2, m.hasObj m1⟩, (fun _ => trivial), by decide⟩ (ug rfl rfl x) rfl (a5W (i := 12) (by kernel_rfl) rfl (lu x (d7 (a6x (listed' := L_ 25 12) rfl ⟨⟨m.hasK kr, m.hasObj m0, m.hasObj m2, m.hasObj m1⟩, (fun _ => trivial), by decide⟩ ?_)))))
    refine M3 (i := 13) (listed' := L_ 25 13) (fun _ => True) rfl (by kernel_rfl) (g6 (g6 (n9 (g6 (g6 (n9 (g6 (g6 B1)))))))) (by kernel_rfl) rfl (by kernel_rfl) (by kernel_rfl) rfl (.inl fun _ _ => trivial) ⟨⟨m.hasK kr, m.hasObj m0, m.hasObj m2, m.hasObj m1⟩, (fun _ => trivial), by decide⟩ wn rfl (fun _ _ => (F7 rfl x rfl)) (M3 (i := 14) (listed' := L_ 25 14) (fun _ => True) rfl (by kernel_rfl) (g6 (g6 (n9 (g6 (g6 (n9 (g6 (g6 B1)))))))) (by kernel_rfl) rfl (by kernel_rfl) (by kernel_rfl) rfl (.inl fun _ _ => trivial) ⟨⟨m.hasK kr, m.hasObj m0, m.hasObj m2, m.hasObj m1⟩, (fun _ => trivial), by decide⟩ wn rfl (fun _ _ => (d6 rfl)) ?_)
    refine a02 (i := 15) (listed' := L_ 25 15) rfl (by kernel_rfl) (g6 (g6 (n9 (g6 (g6 (n9 (g6 (g6 B1)))))))) (by kernel_rfl) rfl (by kernel_rfl) (by kernel_rfl) rfl ⟨⟨m.hasK kr, m.hasObj m0, m.hasObj m2, m.hasObj m1⟩, (fun _ => trivial), by decide⟩ (ug rfl rfl rfl) rfl (a02 (i := 16) (listed' := L_ 25 16) rfl (by kernel_rfl) (g6 (g6 (n9 (g6 (g6 (n9 (g6 (g6 B1)))))))) (by kernel_rfl) rfl (by kernel_rfl) (by kernel_rfl) rfl ⟨⟨m.hasK kr, m.hasObj m0, m.hasObj m2, m.hasObj m1⟩, (fun _ => trivial), by decide⟩ (ug rfl rfl rfl) rfl ?_)
    refine a02 (i := 17) (listed' := L_ 25 17) rfl (by kernel_rfl) (g6 (g6 (n9 (g6 (g6 (n9 (g6 (g6 B1)))))))) (by kernel_rfl) rfl (by kernel_rfl) (by kernel_rfl) rfl ⟨⟨m.hasK kr, m.hasObj m0, m.hasObj m2, m.hasObj m1⟩, (fun _ => trivial), by decide⟩ (ug rfl rfl rfl) rfl (a02 (i := 18) (listed' := L_ 25 18) rfl (by kernel_rfl) (g6 (g6 (n9 (g6 (g6 (n9 (g6 (g6 B1)))))))) (by kernel_rfl) rfl (by kernel_rfl) (by kernel_rfl) rfl ⟨⟨m.hasK kr, m.hasObj m0, m.hasObj m2, m.hasObj m1⟩, (fun _ => trivial), by decide⟩ (ug rfl rfl rfl) rfl ?_)
    refine a02 (i := 19) (listed' := L_ 25 19) rfl (by kernel_rfl) (g6 (g6 (n9 (g6 (g6 (n9 (g6 (g6 B1)))))))) (by kernel_rfl) rfl (by kernel_rfl) (by kernel_rfl) rfl ⟨⟨m.hasK kr, m.hasObj m0, m.hasObj m2, m.hasObj m1⟩, (fun _ => trivial), by decide⟩ (ug rfl rfl rfl) rfl (a02 (i := 20) (listed' := L_ 25 20) rfl (by kernel_rfl) (g6 (g6 (n9 (g6 (g6 (n9 (g6 (g6 B1)))))))) (by kernel_rfl) rfl (by kernel_rfl) (by kernel_rfl) rfl ⟨⟨m.hasK kr, m.hasObj m0, m.hasObj m2, m.hasObj m1⟩, (fun _ => trivial), by decide⟩ (ug rfl rfl rfl) rfl (a5W (i := 21) (by kernel_rfl) rfl (lu rfl (d7 (a6x (listed' := L_ 25 21) rfl ⟨⟨m.hasK kr, m.hasObj m0, m.hasObj m2, m.hasObj m1⟩, (fun _ => trivial), by decide⟩ ?_)))))
    refine a02 (i := 22) (listed' := L_ 25 22) rfl (by kernel_rfl) (g6 (g6 (n9 (g6 (g6 (n9 (g6 (g6 B1)))))))) (by kernel_rfl) rfl (by kernel_rfl) (by kernel_rfl) rfl ⟨⟨m.hasK kr, m.hasObj m0, m.hasObj m2, m.hasObj m1⟩, (fun _ => trivial), by decide⟩ (ug rfl rfl rfl) rfl (a02 (i := 23) (listed' := L_ 25 23) rfl (by kernel_rfl) (g6 (g6 (n9 (g6 (g6 (n9 (g6 (g6 B1)))))))) (by kernel_rfl) rfl (by kernel_rfl) (by kernel_rfl) rfl ⟨⟨m.hasK kr, m.hasObj m0, m.hasObj m2, m.hasObj m1⟩, (fun _ => trivial), by decide⟩ (ug rfl rfl rfl) rfl ?_)
    refine M3 (i := 24) (listed' := L_ 25 24) (fun _ => True) rfl (by kernel_rfl) (g6 (g6 (n9 (g6 (g6 (n9 (g6 (g6 B1)))))))) (by kernel_rfl) rfl (by kernel_rfl) (by kernel_rfl) rfl (.inl fun _ _ => trivial) ⟨⟨m.hasK kr, m.hasObj m0, m.hasObj m2, m.hasObj m1⟩, (fun _ => trivial), by decide⟩ wn rfl (fun _ _ => (F7 rfl rfl rfl)) (a6K (by kernel_rfl) ?_)
    cases oi ac
    exact qd ⟨U, rfl, m.s, kr⟩
   rintro _ bL ⟨aj, rfl, ak, be⟩
   refine j6 (B5 aO rfl (fun bf ae => ?_) (fun bf ae => ?_))
   ·refine sr (lv (r_t rfl) (nq (i9 (d8 (c9 (c9 ?_))))))
    cases oi ae
    cases ag _ rfl
    refine d8 (c9 ?_)
    cases oi af
    refine c9 ?_
    cases oi X
    exact ey results151 ⟨aj, rfl, ak.s⟩
   refine i6 (o0 (j6 (i7 (mv rfl (lv (s6 rfl rfl) (av rfl (d7 ?_)))))))
   cases oi ae
   exact qd ⟨_, rfl, aj, rfl, ak, (J.trans be), (l9 _)⟩
  refine q7 (d4 (d4 ?_))
  cases oi ab
  cases ag _ rfl
  refine j5 ?_
  cases oi af
  exact H9 ⟨_, U, rfl, rfl, V.s, J⟩ trivial
 rintro _ bM ⟨bN, bg, rfl, rfl, bh, bO⟩
 have X := C8 X
 refine qr (lv (M7 rfl) (nq (i9 ?_)))
 cases oi X
 exact ey results151 ⟨bg, rfl, bh⟩
end Go.Proofs.YtmkhlppjphodfaaGreatDoor
