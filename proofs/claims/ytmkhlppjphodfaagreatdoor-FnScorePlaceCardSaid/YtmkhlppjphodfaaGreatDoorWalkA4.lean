/-
 Walks of the functions. Printed by gen.py.
-/
import Derived.Test.YtmkhlppjphodfaaGreatDoorWalkA0
import Derived.Test.YtmkhlppjphodfaaGreatDoorWalkA1
import Derived.Test.YtmkhlppjphodfaaGreatDoorWalkA2
import Derived.Test.YtmkhlppjphodfaaGreatDoorWalkA3
set_option linter.unusedVariables false
set_option linter.unusedSectionVars false
set_option maxRecDepth 100000
namespace Go.Proofs.YtmkhlppjphodfaaGreatDoor
set_option maxHeartbeats 4000000
open Go Go.Fk Go.RowKit Tryz
variable (F : Nat) {w : World} {K : C5} {Z : List Nat} {g1 g2 g3 : Nat} {A B C D G H I J O R S T : Option Addr} {a b c d f i k l m n o p q s v x y aa ab ac ad ae af ag : Nat}
variable [dr : Dr]

theorem a1u {q0 : q9} {q1 : k6} {r : (List y9)} (hS : SH w K [] w K []) (aj : b7 B8 K A a b q0.Stops) (aS : b7 I4 K B c d q0.Syns) (aT : q1.length ≤ maxLen) (hm : I6 F q0 q1 = some r) :
  Calls prog 73 #[.agg #[V3 A a b, V3 B c d], sv q1] w fun e w' => ∃ a_1 n_2 c_3 K', e = .returned (V3 a_1 n_2 c_3) ∧ SH w K [] w' K' [tail (V3 a_1 n_2 c_3) 117 2] ∧ b7 J7 K' a_1 n_2 c_3 r := by
 rw [I6] at hm
 refine ci func73 rfl ntmps73 (sr (bx rfl hS fun i dR bk => ?_))
 have bl : SH _ _ _ _ _ [q8 i [V3 A a b, V3 B c d] 26] := bk
 refine lv (r_n rfl) (nr (b0 J7 underlying114 F9 bl fun k dS bm J aU az => (av rfl (ns (k8 ?_)))))
 obtain ⟨bn, bo, bp⟩ := ob hm
 refine j4 (IV w K [] bm [(1, sv q1), (2, pt i), (5, V3 k 0 0), (20, .bool bn)] [q8 i [V3 A a b, V3 B c d] 26, tail (V3 k 0 0) 117 2]) ?_ ?_
 ·refine i7 (lv (l3 (ds := [V3 A a b, V3 B c d]) E6 rfl m1 az rfl rfl) ?_)
  obtain ⟨dT, bq, br⟩ := ob bo
  refine lk b7U (a26 F az.enter0 (aj.mono J) (aS.mono J) bq) ?_
  rintro dU dV ⟨bs, rfl, aA⟩
  have aB := (az.c0 aA).t2
  refine lv (y4 rfl) (mv rfl (bt br (fun l aC => ?_) (fun l aC => ?_)))
  ·refine lu l (lu l (lu l (lv (K5 rfl l rfl) (d7 ?_))))
   cases oi aC
   exact qd ⟨bs, rfl, aB.f1, aA.le⟩
  refine lg l (d6 rfl) ?_
  obtain ⟨dW, bu, bv⟩ := ob aC
  refine x9 (wg rfl rfl l) rfl (x8 (vs := [sv q1]) b5m rfl) (a27 F aB.enter0 aT bu) ?_
  rintro dX dY ⟨bz, rfl, aV⟩
  refine ⟨_, rfl, ?_⟩
  have bA := (aB.c0 aV).t2
  refine lg l (y4 rfl) (lv (j9 rfl l rfl) (d7 ?_))
  cases oi bv
  exact qd ⟨bz, rfl, bA.f1, (aA.le.trans aV.le)⟩
 rintro _ dZ ⟨bB, rfl, aW, O⟩
 refine j6 (B5 bp rfl (fun bC aD => ?_) (fun bC aD => ?_))
 ·refine sr (mv rfl (av rfl (nq (rr ?_))))
  cases oi aD
  exact ey results73 ⟨k, 0, 0, bB, rfl, aW.s, (aU.mono O)⟩
 refine i6 (qr (b0 J7 underlying114 F9 aW fun bD ea eb Y bE aX => (av rfl (P6 (mv rfl ?_)))))
 obtain ⟨aY, bF, bG⟩ := ob aD
 refine lk b8O (a79 F aX.enter0 aT bF) ?_
 rintro ec ed ⟨aZ, ba, bb, aE, rfl, y, ak⟩
 have bH := (aX.c0 y).t4
 refine lv (k9 underlying166 rfl ak) (lv (r_m rfl) (nq ?_))
 obtain ⟨bI, bJ, bK⟩ := ob bG
 refine j4 (fun E' w' => ∃ R S T C, E' = [(2, pt i), (5, V3 k 0 0), (6, V3 R S T)] ∧ SH w K [] w' C [q8 i [V3 A a b, V3 B c d] 26, tail (V3 k 0 0) 117 2, tail (V3 R S T) 117 2] ∧ H6 aE C ∧ b7 J7 C R S T bI) ?_ ?_
 ·refine i5 ?_
  obtain ⟨ee, bL, bM⟩ := ob bJ
  have bN := bH.f1.f3.f3.sb (sk (sk (sk (sd sz))))
  refine qF (fun (aF : Nat) (aG : (List y9)) E' w' => ∃ m o q U, E' = [(2, pt i), (5, V3 k 0 0), (6, V3 m o q), (24, V3 aZ ba bb), (25, V6 (aY.length : Int)), (26, V6 ((aF : Nat) : Int))] ∧ SH w K [] w' U [q8 i [V3 A a b, V3 B c d] 26, tail (V3 k 0 0) 117 2, tail (V3 m o q) 117 2] ∧ H6 aE U ∧ b7 J7 U m o q aG) bL ⟨bD, 0, 0, aE, rfl, bN, kr, (bE.mono y.le)⟩ ?_ ?_
  ·rintro aF aG _ bO ef hi97 bP ⟨m, o, q, U, rfl, am, D, an⟩
   refine sr (lv (n8 rfl rfl) (ns (A3 rfl (c7 (by omega)) (i6 (j6 (k8 (i5 (sr ?_))))))))
   obtain ⟨f, bQ, bR⟩ := ob bP
   refine li underlying166 a1Z (ak.mono D) bQ fun bS bT eg bU bV => ?_
   obtain ⟨rfl, bc, bW, eh, ei⟩ := bU
   have bX : D0 _ bS bT [sv f.Text, V6 f.At, V6 f.From, V6 f.To] := bV
   refine lv (D4 a1Z rfl am bX rfl) (al a1Z am fun aH ej bY => ?_)
   have bZ : SH _ _ _ _ _ [q8 aH [sv [], V6 0, V6 0, V6 0] 169, _, _, _] := bY
   refine lw [sv f.Text, V6 f.At, V6 f.From, V6 f.To] a1Z bZ fun ek aI => (nr (fl a6g rfl D9 m0 aI rfl ?_))
   obtain ⟨V, ca, cb⟩ := ob bR
   refine lk b7V (a1U F aI.enter0 bc ca) ?_
   rintro el em ⟨cc, rfl, G, bd⟩
   have ao := (aI.c0 G).t4
   refine av rfl (ns ?_)
   obtain ⟨cd, ce, cf⟩ := ob cb
   refine j4 (IV w K [] cc [(2, pt i), (5, V3 k 0 0), (6, V3 m o q), (8, pt aH), (9, sv V), (24, V3 aZ ba bb), (25, V6 (aY.length : Int)), (26, V6 ((aF : Nat) : Int)), (45, .bool cd)] [q8 i [V3 A a b, V3 B c d] 26, q8 aH [sv f.Text, V6 f.At, V6 f.From, V6 f.To] 169, tail (V3 k 0 0) 117 2, tail (V3 m o q) 117 2]) ?_ ?_
   ·refine i7 (fl a1w rfl O5 m1 ao rfl (fl a6g rfl D9 m0 ao rfl ?_))
    obtain ⟨en, cg, ch⟩ := ob ce
    refine lk b7W (S6 F ao.enter0 (b7.mono (((((J.trans O).trans Y).trans y.le).trans D).trans G.le) aj) bc cg) ?_
    rintro eo ep ⟨cj, rfl, ap⟩
    have aq := (ao.c0 ap).t4
    refine lv (y4 rfl) (mv rfl (bt ch (fun s aJ => ?_) (fun s aJ => ?_)))
    ·refine lg s (b8 a1w rfl) (lg s (l8 O5 rfl m1 aq rfl) (lg s (d6 rfl) ?_))
     obtain ⟨eq, ck, cl⟩ := ob aJ
     refine x9 (wg rfl rfl s) rfl (x8 (vs := [V3 A a b, sv V]) b7W rfl) (S6 F aq.enter0 (b7.mono ((((((J.trans O).trans Y).trans y.le).trans D).trans G.le).trans ap.le) aj) bd ck) ?_
     rintro es et ⟨cm, rfl, be⟩
     refine ⟨_, rfl, ?_⟩
     have cn := (aq.c0 be).t4
     refine lg s (y4 rfl) (lv (j3 rfl s rfl) (d7 ?_))
     cases oi cl
     exact qd ⟨cm, rfl, cn.f3.f3.f2.f3, (ap.le.trans be.le)⟩
    iterate 5 refine lu s ?_
    refine lv (F7 rfl s rfl) (d7 ?_)
    cases oi aJ
    exact qd ⟨cj, rfl, aq.f3.f3.f2.f3, ap.le⟩
   rintro _ eu ⟨cp, rfl, aK, ar⟩
   refine j6 (B5 cf rfl (fun cq aL => ?_) (fun cq aL => ?_))
   ·refine i7 (mv rfl (mv rfl (fl b3s rfl D8 m1 aK rfl (lv (A5 (cs := #[sv V, V6 f.At]) b3U F9 rfl (by kernel_rfl)) (lb J7 (.agg #[sv V, V6 f.At]) [sv V, V6 f.At] (y9.mk V f.At) underlying114 F9 ⟨rfl, bd, bW⟩ aK fun ev ew ex bf cr ct => ?_)))))
    obtain ⟨eA, cu, cv⟩ := ob aL
    refine lp underlying114 F9 (an.mono ((G.le.trans ar).trans bf)) cr cu ct.f4 fun cw cx cy eB cz cA cB cC => (av rfl (nb (qg (lv (y3 rfl rfl (A0 hi97 (b7.max ak))) (mv rfl (d7 ?_))))))
    cases oi cv
    exact qd ⟨cw, cx, cy, cz, rfl, cC.f4.f3.s, ((((D.trans G.le).trans ar).trans bf).trans cA), cB⟩
   refine i6 (o0 (qg (lv (y3 rfl rfl (A0 hi97 (b7.max ak))) (mv rfl (d7 ?_)))))
   cases oi aL
   exact qd ⟨m, o, q, cp, rfl, aK.s, ((D.trans G.le).trans ar), (an.mono (G.le.trans ar))⟩
  rintro aG _ bO cD ⟨m, o, q, U, rfl, am, D, an⟩
  subst cD
  refine sr (lv (n8 rfl rfl) (ns (A2 rfl (c6 (by omega)) (q7 (d4 (d4 (j5 ?_)))))))
  cases oi bM
  exact qd ⟨m, o, q, U, rfl, am, D, an⟩
 rintro _ eC ⟨R, S, T, C, rfl, cE, aM, au⟩
 refine qs (sr (lv (L3 rfl) (nq ?_)))
 obtain ⟨cF, cG, cH⟩ := ob bK
 refine j4 (fun E' w' => ∃ aa ab ac ad, E' = [(5, V3 aa ab ac)] ∧ SH w K [] w' ad [tail (V3 aa ab ac) 117 2] ∧ H6 C ad ∧ b7 J7 ad aa ab ac cF) ?_ ?_
 ·refine i5 ?_
  obtain ⟨eD, cI, cJ⟩ := ob cG
  refine qw (fun (aw : (List y9) × Int) E' w' => ∃ ae af ag ah, E' = [(2, pt i), (5, V3 ae af ag), (6, V3 R S T), (10, V6 aw.2)] ∧ SH w K [] w' ah [q8 i [V3 A a b, V3 B c d] 26, tail (V3 ae af ag) 117 2, tail (V3 R S T) 117 2] ∧ H6 C ah ∧ b7 J7 ah ae af ag aw.1 ∧ d9 aw.2) cI ⟨k, 0, 0, C, rfl, cE, kr, (b7.mono (((O.trans Y).trans y.le).trans aM) aU), I0⟩ ?_
  rintro aw _ eE eF cK cL ⟨ae, af, ag, ah, rfl, ax, x, aN, cM⟩
  refine k8 (sr (mv rfl (mv rfl (lv (k9 underlying114 rfl (au.mono x)) (lv (n8 rfl rfl) (nq (B5 cK rfl (fun cN aO => ?_) (fun cN aO => ?_))))))))
  ·refine i6 (j6 (i5 (sr (lv (l3 (ds := [V3 A a b, V3 B c d]) E6 rfl m0 ax rfl rfl) (mv rfl (mv rfl ?_))))))
   obtain ⟨eG, cO, cP⟩ := ob aO
   refine lk b8P (a9b F ax.enter0 (b7.mono (((((J.trans O).trans Y).trans y.le).trans aM).trans x) aj) (b7.mono (((((J.trans O).trans Y).trans y.le).trans aM).trans x) aS) (au.mono x) cM cO) ?_
   rintro eH eI ⟨v221, cQ, rfl, H, hp222⟩
   have aP := (ax.c0 H).t3
   refine av rfl (P6 (mv rfl (lv (b63 underlying170 rfl rfl hp222) (nq (B5 cP rfl (fun cR aQ => ?_) (fun cR aQ => ?_))))))
   ·refine sr (mv rfl (mv rfl (mv rfl ?_)))
    obtain ⟨I, cS, cT⟩ := ob aQ
    refine li underlying114 F9 (au.mono (x.trans H.le)) cS fun cU cV eJ cW cX => ?_
    obtain ⟨rfl, cY, cZ⟩ := cW
    have da : D0 _ cU cV [sv I.Text, V6 I.At] := cX
    refine lv (D4 F9 rfl aP da rfl) (lb J7 (.agg #[sv I.Text, V6 I.At]) [sv I.Text, V6 I.At] I underlying114 F9 ⟨rfl, cY, cZ⟩ aP fun eK eL eM bg db dc => ?_)
    obtain ⟨eN, dd, de⟩ := ob cT
    refine lp underlying114 F9 (aN.mono (H.le.trans bg)) db dd dc.f2 fun df dg dh eO di dj dk dl => (av rfl (nr (mv rfl (lv (s6 rfl rfl) (av rfl (nq (q7 (d4 (j5 ?_)))))))))
    cases oi de
    exact qd ⟨_, rfl, df, dg, dh, di, rfl, dl.f3.f1.f3.s, (((x.trans H.le).trans bg).trans dj), dk, (l9 _)⟩
   refine i6 (qs ?_)
   have bh := aP.drew
   refine wh1 (fun w' => E7 cQ w') (fun w' => True) 14 [] mixed (bh.hasK kr) (fun _ => trivial) (gt (d6 rfl) (gt (d6 rfl) ?_))
   obtain ⟨ai, dm, dn⟩ := ob aQ
   obtain ⟨dp, dq, eP, rfl, dr, dt⟩ := a5s.get hp222 dm
   obtain ⟨du, dv, dw, rfl, dx, dy⟩ := dr
   have bi : D0 _ dp dq [V3 du dv dw, sv ai.To] := dt
   refine gt (v8 rfl) (gt (b8 a4F rfl) (gh (fun _ h => a0M D9 rfl (bi 1 _ rfl) h) (gt (d6 rfl) (gt (d6 rfl) ?_))))
   obtain ⟨W, dz, dA⟩ := ob dn
   refine gi underlying114 F9 (au.mono (x.trans H.le)) dz fun dB dC eQ dD dE => ?_
   obtain ⟨rfl, eR, dF⟩ := dD
   have dG : D0 _ dB dC [sv W.Text, V6 W.At] := dE
   refine gt (b8 a1r rfl) (gh (fun _ h => a0M D8 rfl (dG 1 _ rfl) h) (gt (A5 (cs := #[sv ai.To, V6 W.At]) b3U F9 rfl (by kernel_rfl)) (gn (lb J7 (.agg #[sv ai.To, V6 W.At]) [sv ai.To, V6 W.At] (y9.mk ai.To W.At) underlying114 F9 ⟨rfl, dy, dF⟩ bh fun eS eT eU X dH bj => (d7 (qh (bj.hasK X) (fun _ => trivial) (gn ?_)))))))
   obtain ⟨eV, dI, dJ⟩ := ob dA
   refine lp underlying114 F9 (aN.mono (H.le.trans X)) dH dI bj.f2 fun dK dL dM eW dN ay dO aR => (d7 (qh (aR.hasK (X.trans ay)) (fun _ => trivial) (gt (r9 rfl) (gd' (j6 (i7 (mv rfl (mv rfl (lv (v8 rfl) (fa a0K rfl ?_))))))))))
   refine lv (u0 O5 rfl aR ((D0.mono (X.trans ay) bi) 0 _ rfl)) (lv (k9 underlying23 rfl (dx.mono (X.trans ay))) (lv (s6 rfl rfl) (av rfl (nb ?_))))
   cases oi dJ
   exact qd ⟨_, rfl, dK, dL, dM, dN, rfl, aR.f3.f1.f3.s, (((x.trans H.le).trans X).trans ay), dO, (l9 _)⟩
  refine q7 (d4 (d4 ?_))
  cases oi aO
  cases cL _ rfl
  refine j5 ?_
  cases oi cJ
  exact qd ⟨ae, af, ag, ah, rfl, ax.s, x, aN⟩
 rintro _ eX ⟨aa, ab, ac, ad, rfl, dP, eY, dQ⟩
 refine qr (mv rfl (av rfl (nq (i9 ?_))))
 cases oi cH
 exact ey results73 ⟨aa, ab, ac, ad, rfl, dP, dQ⟩

theorem a9V {q0 : q9} {q1 : List s7} {r : z2} (hS : SH w K [] w K []) (bH : b7 B8 K A a b q0.Stops) (bI : b7 I4 K B c d q0.Syns) (ay : b7 E1 K C f i q1) (hm : a1K F q0 q1 = some r) :
  Calls prog 67 #[.agg #[V3 A a b, V3 B c d], V3 C f i] w fun e w' => ∃ a_1 n_2 c_3 a_5 n_6 c_7 K', e = .returned (.agg #[V3 a_1 n_2 c_3, V3 a_5 n_6 c_7]) ∧ SH w K [] w' K' [tail (V3 a_5 n_6 c_7) 112 3] ∧ b7 E1 K' a_1 n_2 c_3 r.Docs ∧ b7 z6 K' a_5 n_6 c_7 r.Entries := by
 rw [a1K] at hm
 refine ci func67 rfl ntmps67 (sr (bx rfl hS fun l eA bV => ?_))
 have bW : SH _ _ _ _ _ [q8 l [V3 A a b, V3 B c d] 26] := bV
 refine al G0 bW fun k eB bX => ?_
 have bi : SH _ _ _ _ _ [q8 k [V3 none 0 0, V3 none 0 0] 46, _] := bX
 refine ns (k8 ?_)
 obtain ⟨bY, bZ, ca⟩ := ob hm
 refine j4 (IV w K [] K [(1, V3 C f i), (2, pt l), (4, pt k), (19, .bool bY)] [q8 l [V3 A a b, V3 B c d] 26, q8 k [V3 none 0 0, V3 none 0 0] 46]) ?_ ?_
 ·refine i7 (lv (l3 (ds := [V3 A a b, V3 B c d]) E6 rfl m1 bi rfl rfl) ?_)
  obtain ⟨eC, cb, cc⟩ := ob bZ
  refine lk b7U (a26 F bi.enter0 bH bI cb) ?_
  rintro eD w32 ⟨cd, rfl, aK⟩
  have bj := (bi.c0 aK).t2
  refine lv (y4 rfl) (mv rfl (bt cc (fun o bk => ?_) (fun o bk => ?_)))
  ·refine lu o (lu o (lu o (lv (K5 rfl o rfl) (d7 ?_))))
   cases oi bk
   exact qd ⟨cd, rfl, bj.f1, aK.le⟩
  refine lg o (d6 rfl) ?_
  obtain ⟨eE, ce, cf⟩ := ob bk
  refine x9 (wg rfl rfl o) rfl (x8 (vs := [V3 C f i]) b9G rfl) (a4Q F bj.enter0 (ay.mono aK.le) ce) ?_
  rintro eF eG ⟨cg, rfl, bJ⟩
  refine ⟨_, rfl, ?_⟩
  have ch := (bj.c0 bJ).t2
  refine lg o (y4 rfl) (lv (j9 rfl o rfl) (d7 ?_))
  cases oi cf
  exact qd ⟨cg, rfl, ch.f1, (aK.le.trans bJ.le)⟩
 rintro _ eH ⟨cj, rfl, bl, S⟩
 refine j6 (B5 ca rfl (fun ck bm => ?_) (fun ck bm => ?_))
 ·refine sr (lv (A5 (cs := #[V3 none 0 0, V3 none 0 0]) b8z G0 rfl (by kernel_rfl)) (lw [V3 none 0 0, V3 none 0 0] G0 bl.f1 fun eI bK => (nq (rr ?_))))
  cases oi bm
  have cl := bK.nil 112 3
  exact ez results67 G0 bK m0 ⟨none, 0, 0, none, 0, 0, cj, rfl, cl.s, (b7.nil _ _), (b7.nil _ _)⟩
 refine i6 (qr (mv rfl ?_))
 obtain ⟨eJ, cm, cn⟩ := ob bm
 refine lk b92 (a6p F bl.enter0 (ay.mono S) cm) ?_
 rintro eK eL ⟨bn, bo, bp, eM, rfl, U, cp⟩
 have cq := (bl.c0 U).t3
 refine b0 z6 underlying44 E3 cq fun bq eN br V eO cr => (lv (A5 (cs := #[V3 bn bo bp, V3 bq 0 0]) b8z G0 rfl (by kernel_rfl)) (al G0 cr fun m eP ct => ?_))
 have cu : SH _ _ _ _ _ [q8 m [V3 none 0 0, V3 none 0 0] 46, _, _, _, _] := ct
 refine lw [V3 bn bo bp, V3 bq 0 0] G0 cu fun eQ cv => (P6 (mv rfl (lv (k9 underlying35 rfl (ay.mono ((S.trans U.le).trans V))) (lv (r_m rfl) (nq ?_)))))
 obtain ⟨bL, cw, cx⟩ := ob cn
 refine j4 (fun E' w' => ∃ X Y aa I J O lay93 aL, E' = [(4, pt k), (5, pt m)] ∧ SH w K [] w' aL [q8 k [V3 none 0 0, V3 none 0 0] 46, q8 m [V3 X Y aa, V3 I J O] 46, a4Z (L0 112 71 3 I J O lay93)] ∧ H6 br aL ∧ b7 E1 aL X Y aa bL.Docs ∧ a4g lay93 bL.Entries) ?_ ?_
 ·refine i5 ?_
  obtain ⟨eR, cy, cz⟩ := ob cw
  have cA := b4G (TP := 71) (TI := 3) cv.f1
  have cB := cA.f1.f4.f4.sb (sk (sk (sk (sk (sd sz)))))
  refine qF (fun (ab : Nat) (aM : z2) E' w' => ∃ ac ad ae af ag ah lay111 q, E' = [(2, pt l), (4, pt k), (5, pt m), (25, V3 C f i), (26, V6 (q1.length : Int)), (27, V6 ((ab : Nat) : Int))] ∧ SH w K [] w' q [q8 l [V3 A a b, V3 B c d] 26, q8 k [V3 none 0 0, V3 none 0 0] 46, q8 m [V3 ac ad ae, V3 af ag ah] 46, a4Z (L0 112 71 3 af ag ah lay111)] ∧ H6 br q ∧ b7 E1 q ac ad ae aM.Docs ∧ a4g lay111 aM.Entries) cy ⟨bn, bo, bp, bq, 0, 0, [], br, rfl, cB, kr, (cp.mono V), ⟨(fun _ h => nomatch h), rfl⟩⟩ ?_ ?_
  ·rintro ab aM _ cC eS hi120 cD ⟨ac, ad, ae, af, ag, ah, lay111, q, rfl, aN, ai, bs, bu⟩
   refine sr (lv (n8 rfl rfl) (ns (A3 rfl (c7 (by omega)) (i6 (j6 (k8 (i5 (sr ?_))))))))
   obtain ⟨s, cE, cF⟩ := ob cD
   refine li underlying35 C0 (b7.mono (((S.trans U.le).trans V).trans ai) ay) cE fun cG cH eT cI cJ => ?_
   obtain ⟨D, G, H, az, aA, aB, rfl, cK, bv, eU⟩ := cI
   have cL : D0 _ cG cH [V6 s.Id, V3 D G H, V3 az aA aB] := cJ
   refine lv (D4 C0 rfl aN cL rfl) (al C0 aN fun R eV cM => ?_)
   have cN : SH _ _ _ _ _ [q8 R [V6 0, V3 none 0 0, V3 none 0 0] 54, _, _, _, _] := cM
   refine lw [V6 s.Id, V3 D G H, V3 az aA aB] C0 cN fun eW bM => (nr (fl W0 rfl a3Y m0 bM rfl (lv (k9 underlying51 rfl bv) (lv (r_m rfl) (nq ?_)))))
   obtain ⟨bN, cO, cP⟩ := ob cF
   refine j4 (fun E' w' => ∃ aO aP aQ aR aS aT lay161 aC, E' = [(2, pt l), (4, pt k), (5, pt m), (25, V3 C f i), (26, V6 (q1.length : Int)), (27, V6 ((ab : Nat) : Int))] ∧ SH w K [] w' aC [q8 l [V3 A a b, V3 B c d] 26, q8 k [V3 none 0 0, V3 none 0 0] 46, q8 m [V3 aO aP aQ, V3 aR aS aT] 46, a4Z (L0 112 71 3 aR aS aT lay161)] ∧ H6 q aC ∧ b7 E1 aC aO aP aQ bN.Docs ∧ a4g lay161 bN.Entries) ?_ ?_
   ·refine i5 ?_
    obtain ⟨eX, cQ, cR⟩ := ob cO
    refine qF (fun (aU : Nat) (aV : z2) E' w' => ∃ aj ak am an ao ap lay179 aq, E' = [(2, pt l), (4, pt k), (5, pt m), (7, pt R), (25, V3 C f i), (26, V6 (q1.length : Int)), (27, V6 ((ab : Nat) : Int)), (32, V3 D G H), (33, V6 (s.Fields.length : Int)), (34, V6 ((aU : Nat) : Int))] ∧ SH w K [] w' aq [q8 l [V3 A a b, V3 B c d] 26, q8 k [V3 none 0 0, V3 none 0 0] 46, q8 m [V3 aj ak am, V3 an ao ap] 46, a4Z (L0 112 71 3 an ao ap lay179), q8 R [V6 s.Id, V3 D G H, V3 az aA aB] 54] ∧ H6 q aq ∧ b7 E1 aq aj ak am aV.Docs ∧ a4g lay179 aV.Entries) cQ ⟨ac, ad, ae, af, ag, ah, lay111, q, rfl, bM.f4.f4.f4.f4, kr, bs, bu⟩ ?_ ?_
    ·rintro aU aV _ cS eY hi186 cT ⟨aj, ak, am, an, ao, ap, lay179, aq, rfl, aW, ar, bz, bA⟩
     refine sr (lv (n8 rfl rfl) (ns (A3 rfl (c7 (by omega)) (i6 (j6 (k8 (i5 (sr ?_))))))))
     obtain ⟨au, cU, cV⟩ := ob cT
     refine li underlying51 M9 (bv.mono ar) cU fun cW cX eZ cY cZ => ?_
     obtain ⟨rfl, da, db⟩ := cY
     have dc : D0 _ cW cX [sv au.Name, sv au.Text] := cZ
     refine lv (D4 M9 rfl aW dc rfl) (al M9 aW fun bB fb dd => ?_)
     have de : SH _ _ _ _ _ [q8 bB [sv [], sv []] 158, _, _, _, _, _] := dd
     refine lw [sv au.Name, sv au.Text] M9 de fun fc aX => (nr (lv (l3 (ds := [V3 A a b, V3 B c d]) E6 rfl m1 aX rfl rfl) (fl a6f rfl D9 m0 aX rfl ?_)))
     obtain ⟨df, dg, dh⟩ := ob cV
     refine lk b6v (a1u F aX.enter0 (b7.mono ((((S.trans U.le).trans V).trans ai).trans ar) bH) (b7.mono ((((S.trans U.le).trans V).trans ai).trans ar) bI) db dg) ?_
     rintro fd fe ⟨di, dj, dk, bC, rfl, bD, bE⟩
     have dl := (aX.c0 bD).t7
     refine lv (k9 underlying114 rfl bE) (lv (r_m rfl) (nq ?_))
     obtain ⟨bO, dm, dn⟩ := ob dh
     refine j4 (fun E' w' => ∃ aY aZ ba bb bc bd lay232 aD, E' = [(2, pt l), (4, pt k), (5, pt m), (7, pt R), (25, V3 C f i), (26, V6 (q1.length : Int)), (27, V6 ((ab : Nat) : Int)), (32, V3 D G H), (33, V6 (s.Fields.length : Int)), (34, V6 ((aU : Nat) : Int))] ∧ SH w K [] w' aD [q8 l [V3 A a b, V3 B c d] 26, q8 k [V3 none 0 0, V3 none 0 0] 46, q8 m [V3 aY aZ ba, V3 bb bc bd] 46, a4Z (L0 112 71 3 bb bc bd lay232), q8 R [V6 s.Id, V3 D G H, V3 az aA aB] 54] ∧ H6 bC aD ∧ b7 E1 aD aY aZ ba bO.Docs ∧ a4g lay232 bO.Entries) ?_ ?_
     ·refine i5 ?_
      obtain ⟨fg, dp, dq⟩ := ob dm
      have dt := dl.f1.f6.f6.f6.f6.f6.sb (sk (sk (sk (sk (sk (sk (sd sz)))))))
      refine qF (fun (bP : Nat) (be : z2) E' w' => ∃ aE aF aG aH aI aJ lay250 aw, E' = [(2, pt l), (4, pt k), (5, pt m), (7, pt R), (9, pt bB), (25, V3 C f i), (26, V6 (q1.length : Int)), (27, V6 ((ab : Nat) : Int)), (32, V3 D G H), (33, V6 (s.Fields.length : Int)), (34, V6 ((aU : Nat) : Int)), (41, V3 di dj dk), (42, V6 (df.length : Int)), (43, V6 ((bP : Nat) : Int))] ∧ SH w K [] w' aw [q8 l [V3 A a b, V3 B c d] 26, q8 k [V3 none 0 0, V3 none 0 0] 46, q8 m [V3 aE aF aG, V3 aH aI aJ] 46, a4Z (L0 112 71 3 aH aI aJ lay250), q8 R [V6 s.Id, V3 D G H, V3 az aA aB] 54, q8 bB [sv au.Name, sv au.Text] 158] ∧ H6 bC aw ∧ b7 E1 aw aE aF aG be.Docs ∧ a4g lay250 be.Entries) dp ⟨aj, ak, am, an, ao, ap, lay179, bC, rfl, dt, kr, (bz.mono bD.le), bA⟩ ?_ ?_
      ·rintro bP be _ du fh hi260 dv ⟨aE, aF, aG, aH, aI, aJ, lay250, aw, rfl, bf, bg, bF, bG⟩
       refine sr (lv (n8 rfl rfl) (ns (A3 rfl (c7 (by omega)) (i6 (j6 (k8 (i5 (sr ?_))))))))
       obtain ⟨ax, dw, dx⟩ := ob dv
       refine li underlying114 F9 (bE.mono bg) dw fun dy dz fi dA dB => ?_
       obtain ⟨rfl, dC, dD⟩ := dA
       have dE : D0 _ dy dz [sv ax.Text, V6 ax.At] := dB
       refine lv (D4 F9 rfl bf dE rfl) (al F9 bf fun dF fj dG => ?_)
       have dH : SH _ _ _ _ _ [q8 dF [sv [], V6 0] 117, _, _, _, _, _, _] := dG
       refine lw [sv ax.Text, V6 ax.At] F9 dH fun fk bh => (nq (i7 (fl a2l rfl D9 m6 bh rfl (lv (l3 (ds := [sv ax.Text, V6 ax.At]) F9 rfl m0 bh rfl rfl) (fl X7 rfl D8 m5 bh rfl ?_)))))
       obtain ⟨fm, dI, dJ⟩ := ob dx
       have bQ := bh.f4.f4
       refine lk b8I (a78 F bQ.e2 bF bG da dC dD cK dI) ?_
       rintro fn fo ⟨dK, dL, dM, dN, dO, dP, lay295, dQ, rfl, bR, dR, dS⟩
       have dT := (bQ.c2 bR).t7
       refine nb (qg (lv (y3 rfl rfl (A0 hi260 (b7.max bE))) (mv rfl (d7 ?_))))
       cases oi dJ
       exact qd ⟨dK, dL, dM, dN, dO, dP, lay295, dQ, rfl, dT.f6.f6.f3.f3.f6.f6.s, (bg.trans bR.le), dR, dS⟩
      rintro be _ du dU ⟨aE, aF, aG, aH, aI, aJ, lay250, aw, rfl, bf, bg, bF, bG⟩
      subst dU
      refine sr (lv (n8 rfl rfl) (ns (A2 rfl (c6 (by omega)) (q7 (d4 (d4 (j5 ?_)))))))
      cases oi dq
      exact qd ⟨aE, aF, aG, aH, aI, aJ, lay250, aw, rfl, bf.s, bg, bF, bG⟩
     rintro _ fp ⟨aY, aZ, ba, bb, bc, bd, lay232, aD, rfl, dV, dW, dX, dY⟩
     refine o0 (qg (lv (y3 rfl rfl (A0 hi186 (b7.max bv))) (mv rfl (d7 ?_))))
     cases oi dn
     exact qd ⟨aY, aZ, ba, bb, bc, bd, lay232, aD, rfl, dV, ((ar.trans bD.le).trans dW), dX, dY⟩
    rintro aV _ cS dZ ⟨aj, ak, am, an, ao, ap, lay179, aq, rfl, aW, ar, bz, bA⟩
    subst dZ
    refine sr (lv (n8 rfl rfl) (ns (A2 rfl (c6 (by omega)) (q7 (d4 (d4 (j5 ?_)))))))
    cases oi cR
    exact qd ⟨aj, ak, am, an, ao, ap, lay179, aq, rfl, aW.s, ar, bz, bA⟩
   rintro _ fq ⟨aO, aP, aQ, aR, aS, aT, lay161, aC, rfl, ea, eb, ec, ed⟩
   refine o0 (qg (lv (y3 rfl rfl (A0 hi120 (b7.max (ay.mono ((S.trans U.le).trans V))))) (mv rfl (d7 ?_))))
   cases oi cP
   exact qd ⟨aO, aP, aQ, aR, aS, aT, lay161, aC, rfl, ea, (ai.trans eb), ec, ed⟩
  rintro aM _ cC ee ⟨ac, ad, ae, af, ag, ah, lay111, q, rfl, aN, ai, bs, bu⟩
  subst ee
  refine sr (lv (n8 rfl rfl) (ns (A2 rfl (c6 (by omega)) (q7 (d4 (d4 (j5 ?_)))))))
  cases oi cz
  exact qd ⟨ac, ad, ae, af, ag, ah, lay111, q, rfl, aN.s, ai, bs, bu⟩
 rintro _ fr ⟨X, Y, aa, I, J, O, lay93, aL, rfl, bS, fs, ef, eg⟩
 refine qr (fl G3 rfl tf44 m1 bS rfl ?_)
 obtain ⟨ft, cs314, eh, hrow316, hm317, ei⟩ := b68 bS.f2 eg
 obtain ⟨fu, ej, ek⟩ := ob cx
 refine x9 wn rfl (x8 (vs := [V3 I J O, .func (.func 118) #[] #[]]) b8J rfl) (b4I (T := z6) sortLay117 b2j rfl (fun w => Go.Fk.a2S E3 w) (fun w => Go.Fk.M2 E3 w) (fun a b => O0 F a b) 118 (Go.Proofs.enters_of func118 (by kernel_rfl) rfl) ei hrow316 hm317 (fun K1 W v x u y r hW h1 h2 hm => by
  obtain ⟨fw, fx, fy, rfl, en, eo, ep⟩ := h1
  obtain ⟨fz, fA, fB, rfl, eq, es, et⟩ := h2
  exact (a73 (dr := ⟨True⟩) F (SH.start (dr := ⟨True⟩) hW) en eo ep eq es et hm).mono fun e w' ⟨K', he, hS', _⟩ => ⟨K', he, hS'⟩) ej) ?_
 rintro fC fD ⟨cs334, rfl, bT, hrow336, hm337⟩
 refine ⟨_, rfl, ?_⟩
 refine nr (lv (l3 (ds := [V3 X Y aa, V3 I J O]) G0 rfl m2 bT rfl rfl) (lw [V3 X Y aa, V3 I J O] G0 bT.f1 fun fE eu => (nq (i9 ?_))))
 obtain ⟨ev, ew, ex, bU⟩ := SH.freezeI eu.f1 hrow336 hm337
 cases oi ek
 exact ez results67 G0 bU m1 ⟨X, Y, aa, I, J, O, ev, rfl, bU.s, (ef.mono (eh.trans ew)), ex⟩

theorem Z3 {q0 : List u9} {q1 : List u9} {r : Bool} (hS : SH w K [] w K []) (l : b7 z6 K A a b q0) (O : b7 z6 K B c d q1) (hm : C6 F q0 q1 = some r) :
  Calls prog 71 #[V3 A a b, V3 B c d, .func (.func 72) #[] #[]] w (R_b w K r) := by
 rw [C6] at hm
 refine ci func71 rfl ntmps71 (sr (lv (M7 rfl) (P6 (mv rfl (lv (k9 underlying44 rfl l) (mv rfl (lv (k9 underlying44 rfl O) (lv (W3 rfl rfl) (nq ?_)))))))))
 refine S3 rfl (fun H => ?_) (fun H => ?_)
 ·have I := a1R H hm
  refine sr (lv (M7 rfl) (nq (rr ?_)))
  cases oi I
  exact ey results71 ⟨K, rfl, hS⟩
 have I := a1Q H hm
 refine i6 (qs (sr (mv rfl (lv (k9 underlying44 rfl l) (lv (r_m rfl) (nq ?_))))))
 obtain ⟨aa, ab, m⟩ := ob I
 refine j4 (IE aa w K [] K [] []) ?_ ?_
 ·refine i5 ?_
  obtain ⟨aQ, ac, R⟩ := ob ab
  refine qf (fun (S : Nat) (T : Unit) => IV w K [] K [(1, V3 B c d), (2, .func (.func 72) #[] #[]), (15, V3 A a b), (16, V6 (q0.length : Int)), (17, V6 ((S : Nat) : Int))] []) ac ⟨K, rfl, hS, kr⟩ ?_ ?_
  ·rintro S T _ ad aR hi29 ae af ⟨U, rfl, o, k⟩
   refine sr (lv (n8 rfl rfl) (ns (A3 rfl (c7 (by omega)) (i6 (j6 (k8 (i5 (sr (mv rfl ?_)))))))))
   obtain ⟨f, ag, ah⟩ := ob ae
   refine li underlying44 E3 (l.mono k) ag fun ai aj aS ak am => ?_
   obtain ⟨q, s, x, rfl, an, ao, ap⟩ := ak
   have aq : D0 _ ai aj [sv f.Field, sv f.Term, V3 q s x] := am
   refine lv (D4 E3 rfl o aq rfl) (al E3 o fun ar aT au => ?_)
   have aw : SH _ _ _ _ _ [q8 ar [sv [], sv [], V3 none 0 0] 112] := au
   refine av rfl (lw [sv f.Field, sv f.Term, V3 q s x] E3 aw fun aU V => (nr (mv rfl (mv rfl ?_))))
   obtain ⟨i, ax, ay⟩ := ob ah
   refine li underlying44 E3 (O.mono k) ax fun az aA aV aB aC => ?_
   obtain ⟨y, C, D, rfl, aD, aE, aF⟩ := aB
   have aG : D0 _ az aA [sv i.Field, sv i.Term, V3 y C D] := aC
   refine lv (D4 E3 rfl V aG rfl) (al E3 V fun aH aW aI => ?_)
   have aJ : SH _ _ _ _ _ [q8 aH [sv [], sv [], V3 none 0 0] 112, _] := aI
   refine lw [sv i.Field, sv i.Term, V3 y C D] E3 aJ fun aX G => (nr (mv rfl (lv (l3 (ds := [sv f.Field, sv f.Term, V3 q s x]) E3 rfl m1 G rfl rfl) (lv (l3 (ds := [sv i.Field, sv i.Term, V3 y C D]) E3 rfl m0 G rfl rfl) ?_))))
   obtain ⟨aY, aK, aL⟩ := ob ay
   refine x9 wn rfl (a9t (vs := [.agg #[sv f.Field, sv f.Term, V3 q s x], .agg #[sv i.Field, sv i.Term, V3 y C D]]) (cap := #[]) b96 rfl rfl) (a6q F G.enter0 an ao ap aD aE aF aK) ?_
   rintro aZ ba ⟨W, rfl, X⟩
   refine ⟨_, rfl, ?_⟩
   have Y := (G.c0 X).t2
   refine lv (y4 rfl) (nq (B5 aL rfl (fun aM J => ?_) (fun aM J => ?_)))
   ·refine sr (lv (M7 rfl) (nq (i9 (d8 (c9 (c9 ?_))))))
    cases oi J
    cases af _ rfl
    refine d8 (c9 ?_)
    cases oi R
    refine c9 ?_
    cases oi m
    exact ey results71 ⟨W, rfl, Y.s⟩
   refine i6 (o0 (qg (lv (y3 rfl rfl (A0 hi29 (b7.max l))) (mv rfl (d7 ?_)))))
   cases oi J
   exact qd ⟨_, rfl, W, rfl, Y.s, (k.trans X.le)⟩
  rintro T _ ad aN ⟨U, rfl, o, k⟩
  subst aN
  refine sr (lv (n8 rfl rfl) (ns (A2 rfl (c6 (by omega)) (q7 (d4 (d4 (j5 ?_)))))))
  cases oi R
  exact H9 ⟨_, U, rfl, rfl, o, k⟩ trivial
 rintro _ bb ⟨bc, aO, rfl, rfl, aP, bd⟩
 have m := C8 m
 refine qr (lv (r_t rfl) (nq (i9 ?_)))
 cases oi m
 exact ey results71 ⟨aO, rfl, aP⟩

theorem a5B {q0 : q9} {q1 : z2} {r : Bool} (hS : SH w K [] w K []) (T : b7 B8 K A a b q0.Stops) (U : b7 I4 K B c d q0.Syns) (V : b7 E1 K C f i q1.Docs) (ab : b7 z6 K D k l q1.Entries) (hm : a0S F q0 q1 = some r) :
  Calls prog 25 #[.agg #[V3 A a b, V3 B c d], .agg #[V3 C f i, V3 D k l]] w (R_b w K r) := by
 rw [a0S] at hm
 refine ci func25 rfl ntmps25 (sr (bx rfl hS fun s az ac => ?_))
 have ad : SH _ _ _ _ _ [q8 s [V3 A a b, V3 B c d] 26] := ac
 refine bx rfl ad fun x aA ae => ?_
 have O : SH _ _ _ _ _ [q8 x [V3 C f i, V3 D k l] 46, _] := ae
 refine lv (M7 rfl) (ns (k8 ?_))
 obtain ⟨af, ag, ah⟩ := ob hm
 refine j4 (IV w K [] K [(2, pt s), (3, pt x), (13, .bool af)] [q8 s [V3 A a b, V3 B c d] 26, q8 x [V3 C f i, V3 D k l] 46]) ?_ ?_
 ·refine i7 (lv (l3 (ds := [V3 A a b, V3 B c d]) E6 rfl m1 O rfl rfl) ?_)
  obtain ⟨aB, ai, aj⟩ := ob ag
  refine lk b7U (a26 F O.enter0 T U ai) ?_
  rintro aC aD ⟨ak, rfl, y⟩
  have G := (O.c0 y).t2
  refine lv (y4 rfl) (mv rfl (bt aj (fun m R => ?_) (fun m R => ?_)))
  ·refine lu m (lu m (lu m (lu m (lv (K5 rfl m rfl) (d7 ?_)))))
   cases oi R
   exact qd ⟨ak, rfl, G.f1, y.le⟩
  refine lg m (b8 a03 rfl) (lg m (l8 a5w rfl m0 G rfl) ?_)
  obtain ⟨aE, al, am⟩ := ob R
  refine x9 (wg rfl rfl m) rfl (x8 (vs := [V3 C f i]) b9G rfl) (a4Q F G.enter0 (V.mono y.le) al) ?_
  rintro aF aG ⟨an, rfl, W⟩
  refine ⟨_, rfl, ?_⟩
  have ao := (G.c0 W).t2
  refine lg m (y4 rfl) (lv (j9 rfl m rfl) (d7 ?_))
  cases oi am
  exact qd ⟨an, rfl, ao.f1, (y.le.trans W.le)⟩
 rintro _ aH ⟨X, rfl, Y, H⟩
 refine j6 (B5 ah rfl (fun ap S => ?_) (fun ap S => ?_))
 ·refine sr (lv (M7 rfl) (nq (rr ?_)))
  cases oi S
  exact ey results25 ⟨X, rfl, Y.s⟩
 refine i6 (qs ?_)
 have o := Y.drew
 refine j_0 (fun w' => E7 X w' ∧ y7 s [V3 A a b, V3 B c d] w' ∧ y7 x [V3 C f i, V3 D k l] w') 9 [] mixed ⟨o.hasK kr, o.hasObj m0, o.hasObj m1⟩ (jh 0 rfl (fun _ h => B2 (ds := [V3 A a b, V3 B c d]) E6 rfl rfl rfl h.2.1) (jv 1 rfl (b8 a03 rfl) (jh 2 rfl (fun _ h => y2 a5w rfl rfl h.2.2) (jv 5 rfl (b8 G3 rfl) (jh 6 rfl (fun _ h => y2 tf44 rfl rfl h.2.2) (j1 3 rfl ?_))))))
 obtain ⟨aI, aq, ar⟩ := ob S
 refine lk b93 (a9V F o.enter0 (T.mono H) (U.mono H) (V.mono H) aq) ?_
 rintro aJ aK ⟨aL, aM, aN, aO, aP, aQ, aR, rfl, I, aS, au⟩
 have q := (o.c0 I).t3
 refine W2 ⟨q.hasK I.le, q.hasObj m1, q.hasObj m2⟩ (jv 4 rfl (b17 b75 tf44 rfl (.inl ⟨rfl, rfl⟩)) (j1 7 rfl ?_))
 obtain ⟨aT, aw, ax⟩ := ob ar
 refine lk b95 (Z3 F q.enter0 au (ab.mono (H.trans I.le)) aw) ?_
 rintro aU aV ⟨ay, rfl, aa⟩
 have J := (q.c0 aa).t3
 refine W2 ⟨J.hasK (I.le.trans aa.le), J.hasObj m1, J.hasObj m2⟩ (jv 8 rfl (r9 rfl) (jd (j6 (i9 ?_))))
 cases oi ax
 exact ey results25 ⟨ay, rfl, J.s⟩

theorem a88 {q0 : q9} {q1 : k6} {r : k6} (hS : SH w K [] w K []) (C : b7 B8 K A a b q0.Stops) (D : b7 I4 K B c d q0.Syns) (o : q1.length ≤ maxLen) (hm : a08 F q0 q1 = some r) :
  Calls prog 26 #[.agg #[V3 A a b, V3 B c d], sv q1] w fun e w' => ∃ K', e = .returned (sv r) ∧ SH w K [] w' K' [] ∧ r.length ≤ maxLen := by
 rw [a08] at hm
 refine ci func26 rfl ntmps26 (sr (bx rfl hS fun G af H => ?_))
 have q : SH _ _ _ _ _ [q8 G [V3 A a b, V3 B c d] 26] := H
 refine lv (r_s rfl) (P6 (mv rfl ?_))
 obtain ⟨ag, I, J⟩ := ob hm
 refine lk a6d (E9 F q.enter0 o I) ?_
 rintro ah ai ⟨O, rfl, i⟩
 have f := (q.c0 i).t1
 refine lv (y4 rfl) (nq (B5 J rfl (fun R k => ?_) (fun R k => ?_)))
 ·refine sr (lv (r_s rfl) (nq (rr ?_)))
  cases oi k
  exact ey results26 ⟨O, rfl, f.s, (by decide : ([] : k6).length ≤ maxLen)⟩
 refine i6 (qr (lv (l3 (ds := [V3 A a b, V3 B c d]) E6 rfl m0 f rfl rfl) (mv rfl ?_)))
 obtain ⟨aj, S, T⟩ := ob k
 refine lk b6v (a1u F f.enter0 (C.mono i.le) (D.mono i.le) o S) ?_
 rintro ak al ⟨am, an, ao, s, rfl, U, x⟩
 have l := (f.c0 U).t2
 refine av rfl (P6 (mv rfl (lv (k9 underlying114 rfl x) (lv (u3 rfl rfl) (nq (B5 T rfl (fun V m => ?_) (fun V m => ?_)))))))
 ·refine sr (lv (r_s rfl) (nq (rr ?_)))
  cases oi m
  exact ey results26 ⟨s, rfl, l.s, (by decide : ([] : k6).length ≤ maxLen)⟩
 refine i6 (qr (mv rfl ?_))
 obtain ⟨y, W, X⟩ := ob m
 refine li underlying114 F9 x W fun Y aa ap ab ac => ?_
 obtain ⟨rfl, ad, aq⟩ := ab
 have ae : D0 _ Y aa [sv y.Text, V6 y.At] := ac
 refine fa a1q rfl (lv (u0 D9 rfl l (ae 0 _ rfl)) (av rfl (nq (i9 ?_))))
 cases oi X
 exact ey results26 ⟨s, rfl, l.s, ad⟩

theorem b3n {q0 : q9} {q1 : z2} {q2 : k6} {q3 : k6} {r : (List D5)} (hS : SH w K [] w K []) (aC : b7 B8 K A a b q0.Stops) (aD : b7 I4 K B c d q0.Syns) (ap : b7 E1 K C f i q1.Docs) (aq : b7 z6 K D k l q1.Entries) (aE : q2.length ≤ maxLen) (aF : q3.length ≤ maxLen) (hm : m8 F q0 q1 q2 q3 = some r) :
  Calls prog 29 #[.agg #[V3 A a b, V3 B c d], .agg #[V3 C f i, V3 D k l], sv q2, sv q3] w fun e w' => ∃ a_1 n_2 c_3 K', e = .returned (V3 a_1 n_2 c_3) ∧ SH w K [] w' K' [tail (V3 a_1 n_2 c_3) 71 2] ∧ b7 S1 K' a_1 n_2 c_3 r := by
 rw [m8] at hm
 refine ci func29 rfl ntmps29 (sr (bx rfl hS fun aG bL aH => ?_))
 have aI : SH _ _ _ _ _ [q8 aG [V3 A a b, V3 B c d] 26] := aH
 refine bx rfl aI fun aJ bM aK => ?_
 have aL : SH _ _ _ _ _ [q8 aJ [V3 C f i, V3 D k l] 46, _] := aK
 refine lv (r_n rfl) (nr (b0 S1 underlying57 a1m aL fun ar bN bO s au T => (av rfl (P6 (lv (l3 (ds := [V3 A a b, V3 B c d]) E6 rfl m2 T rfl rfl) (lv (l3 (ds := [V3 C f i, V3 D k l]) G0 rfl m1 T rfl rfl) ?_))))))
 obtain ⟨bP, aM, aN⟩ := ob hm
 refine lk b9x (a5B F T.enter0 (aC.mono s) (aD.mono s) (ap.mono s) (aq.mono s) aM) ?_
 rintro bQ bR ⟨aO, rfl, H⟩
 have aw := (T.c0 H).t3
 refine lv (y4 rfl) (nq (B5 aN rfl (fun aP ab => ?_) (fun aP ab => ?_)))
 ·refine sr (mv rfl (av rfl (nq (rr ?_))))
  cases oi ab
  exact ey results29 ⟨ar, 0, 0, aO, rfl, aw.s, (au.mono H.le)⟩
 refine i6 (qs (sr (mv rfl (mv rfl ?_))))
 obtain ⟨aQ, aR, aS⟩ := ob ab
 have ax := aw.f1
 refine lk b6w (c0p F ax.e1 (ap.mono (s.trans H.le)) (aq.mono (s.trans H.le)) aE aF aR) ?_
 rintro bS bT ⟨aT, aU, aV, ac, rfl, ay, ad⟩
 have aW := (ax.c1 ay).t3
 refine lv (k9 underlying57 rfl ad) (lv (r_m rfl) (nq ?_))
 obtain ⟨aX, aY, aZ⟩ := ob aS
 refine j4 (fun E' w' => ∃ I J O R, E' = [(9, V3 I J O)] ∧ SH w K [] w' R [tail (V3 I J O) 71 2] ∧ H6 ac R ∧ b7 S1 R I J O aX) ?_ ?_
 ·refine i5 ?_
  obtain ⟨bU, ba, bb⟩ := ob aY
  have bc := aW.sb (sd (sk (sd sz)))
  refine qF (fun (az : Nat) (ae : (List D5)) E' w' => ∃ x y G m, E' = [(9, V3 x y G), (20, V3 aT aU aV), (21, V6 (aQ.length : Int)), (22, V6 ((az : Nat) : Int))] ∧ SH w K [] w' m [tail (V3 x y G) 71 2] ∧ H6 ac m ∧ b7 S1 m x y G ae) ba ⟨ar, 0, 0, ac, rfl, bc, kr, (au.mono (H.le.trans ay.le))⟩ ?_ ?_
  ·rintro az ae _ bd bV hi83 be ⟨x, y, G, m, rfl, U, V, af⟩
   refine sr (lv (n8 rfl rfl) (ns (A3 rfl (c7 (by omega)) (i6 (j6 (k8 (i5 (sr ?_))))))))
   obtain ⟨o, bf, bg⟩ := ob be
   refine li underlying57 a1m (ad.mono V) bf fun bh bi bW bj bk => ?_
   obtain ⟨ag, ah, ai, rfl, bl, bm⟩ := bj
   have bn : D0 _ bh bi [V6 o.Doc, V3 ag ah ai] := bk
   refine lv (D4 a1m rfl U bn rfl) (al a1m U fun aA bX bo => ?_)
   have bp : SH _ _ _ _ _ [q8 aA [V6 0, V3 none 0 0] 71, _] := bo
   refine lw [V6 o.Doc, V3 ag ah ai] a1m bp fun bY bq => (nq ?_)
   have aj := bq.drew
   refine j_0 (fun w' => E7 m w' ∧ y7 aA [V6 o.Doc, V3 ag ah ai] w') 11 [] mixed ⟨aj.hasK kr, aj.hasObj m0⟩ (jv 0 rfl (d6 rfl) (jv 1 rfl (b8 a4E rfl) (jh 2 rfl (fun _ h => y2 D8 rfl rfl h.2) (jv 4 rfl (b8 a3t rfl) (jh 5 rfl (fun _ h => y2 Y3 rfl rfl h.2) (j1 3 rfl (b0 B7 underlying55 D8 aj fun bZ ca cb q br ak => (W2 ⟨ak.hasK q, ak.hasObj m1⟩ (j1 6 rfl ?_)))))))))
   obtain ⟨bs, bu, bv⟩ := ob bg
   refine lp underlying55 D8 br (bm.mono q) bu ak fun W X Y cc cd S bz am => (W2 ⟨am.hasK (q.trans S), am.hasObj m1⟩ (jv 7 rfl (A5 (cs := #[V6 o.Doc, V3 W X Y]) b9S a1m rfl (by kernel_rfl)) (j1 8 rfl (lb S1 (.agg #[V6 o.Doc, V3 W X Y]) [V6 o.Doc, V3 W X Y] (D5.mk o.Doc bs) underlying57 a1m ⟨W, X, Y, rfl, bl, bz⟩ am fun ce cf cg aa bA an => (W2 ⟨an.hasK ((q.trans S).trans aa), an.hasObj m2⟩ (j1 9 rfl ?_))))))
   obtain ⟨ch, bB, bC⟩ := ob bv
   refine lp underlying57 a1m (af.mono ((q.trans S).trans aa)) bA bB an.f3 fun bD bE bF cj bG aB bH ao => (W2 ⟨ao.hasK (((q.trans S).trans aa).trans aB), ao.hasObj m3⟩ (jv 10 rfl (r9 rfl) (jd (o0 (qg (lv (y3 rfl rfl (A0 hi83 (b7.max ad))) (mv rfl (d7 ?_))))))))
   cases oi bC
   exact qd ⟨bD, bE, bF, bG, rfl, ao.s, ((((V.trans q).trans S).trans aa).trans aB), bH⟩
  rintro ae _ bd bI ⟨x, y, G, m, rfl, U, V, af⟩
  subst bI
  refine sr (lv (n8 rfl rfl) (ns (A2 rfl (c6 (by omega)) (q7 (d4 (d4 (j5 ?_)))))))
  cases oi bb
  exact qd ⟨x, y, G, m, rfl, U, V, af⟩
 rintro _ ck ⟨I, J, O, R, rfl, bJ, cl, bK⟩
 refine qr (mv rfl (av rfl (nq (i9 ?_))))
 cases oi aZ
 exact ey results29 ⟨I, J, O, R, rfl, bJ, bK⟩

theorem a0n {q0 : Int} {q1 : Int} {q2 : Int} {q3 : Int} {q4 : Int} {r : a3G × Bool} (hS : SH w K [] w K []) (R : d9 q0) (S : d9 q1) (ad : d9 q2) (T : d9 q3) (ae : d9 q4) (hm : U6 F q0 q1 q2 q3 q4 = some r) :
  Calls prog 40 #[V6 q0, V6 q1, V6 q2, V6 q3, V6 q4] w fun e w' => ∃ K', e = .returned (.tuple #[.agg #[V6 r.1.Up, V6 r.1.Down], .bool r.2]) ∧ SH w K [] w' K' [] ∧ d9 r.1.Up ∧ d9 r.1.Down := by
 rw [U6] at hm
 refine ci func40 rfl ntmps40 (sr (al W5 hS fun i w7 af => ?_))
 have U : SH _ _ _ _ _ [q8 i [V6 0, V6 0] 73] := af
 refine lv (M7 rfl) (ns (k8 ?_))
 obtain ⟨ag, ah, ai⟩ := ob hm
 refine j4 (IV w K [] K [(0, V6 q0), (1, V6 q1), (2, V6 q2), (3, V6 q3), (4, V6 q4), (10, pt i), (38, .bool ag)] [q8 i [V6 0, V6 0] 73]) ?_ ?_
 ·refine i7 (mv rfl ?_)
  obtain ⟨aZ, aj, ak⟩ := ob ah
  refine lk a2W (A7 F U.enter0 R (by decide : d9 1) (by decide : d9 80) aj) ?_
  rintro ba bb ⟨am, rfl, k⟩
  have q := (U.c0 k).t1
  refine lv (y4 rfl) (mv rfl (bt ak (fun a s => ?_) (fun a s => ?_)))
  ·refine lu a (lu a (lu a (lu a (lv (K5 rfl a rfl) (mv rfl (lu rfl (lu rfl (lu rfl (lv (K5 rfl rfl rfl) ?_)))))))))
   refine mv rfl (lu rfl (lu rfl (lu rfl (lu rfl (lv (K5 rfl rfl rfl) (mv rfl (lu rfl (lu rfl (lu rfl ?_)))))))))
   refine lu rfl (lv (K5 rfl rfl rfl) (d7 ?_))
   cases oi s
   exact qd ⟨am, rfl, q, k.le⟩
  refine lg a (d6 rfl) (lg a (d6 rfl) ?_)
  obtain ⟨bc, an, ao⟩ := ob s
  refine x9 (wg rfl rfl a) rfl (x8 (vs := [V6 q1, V6 q0, V6 80]) a2W rfl) (A7 F q.enter0 S R (by decide : d9 80) an) ?_
  rintro bd be ⟨ap, rfl, l⟩
  refine ⟨_, rfl, ?_⟩
  have x := (q.c0 l).t1
  refine lg a (y4 rfl) (lv (j9 rfl a rfl) (mv rfl (bt ao (fun f y => ?_) (fun f y => ?_))))
  ·refine lu f (lu f (lu f (lv (K5 rfl f rfl) (mv rfl (lu rfl (lu rfl (lu rfl (lu rfl (lv (K5 rfl rfl rfl) ?_)))))))))
   refine mv rfl (lu rfl (lu rfl (lu rfl (lu rfl (lv (K5 rfl rfl rfl) (d7 ?_))))))
   cases oi y
   exact qd ⟨ap, rfl, x, (k.le.trans l.le)⟩
  refine lg f (d6 rfl) ?_
  obtain ⟨bf, aq, ar⟩ := ob y
  refine x9 (wg rfl rfl f) rfl (x8 (vs := [V6 q3, V6 1, V6 16]) a2W rfl) (A7 F x.enter0 T (by decide : d9 1) (by decide : d9 16) aq) ?_
  rintro bg bh ⟨au, rfl, m⟩
  refine ⟨_, rfl, ?_⟩
  have A := (x.c0 m).t1
  refine lg f (y4 rfl) (lv (j9 rfl f rfl) (mv rfl (bt ar (fun b B => ?_) (fun b B => ?_))))
  ·refine lu b (lu b (lu b (lu b (lv (K5 rfl b rfl) (mv rfl (lu rfl (lu rfl (lu rfl (lu rfl ?_)))))))))
   refine lv (K5 rfl rfl rfl) (d7 ?_)
   cases oi B
   exact qd ⟨au, rfl, A, ((k.le.trans l.le).trans m.le)⟩
  refine lg b (d6 rfl) (lg b (d6 rfl) ?_)
  obtain ⟨bi, aw, ax⟩ := ob B
  refine x9 (wg rfl rfl b) rfl (x8 (vs := [V6 q4, V6 1, V6 q3]) a2W rfl) (A7 F A.enter0 ae (by decide : d9 1) T aw) ?_
  rintro bj bk ⟨ay, rfl, C⟩
  refine ⟨_, rfl, ?_⟩
  have D := (A.c0 C).t1
  refine lg b (y4 rfl) (lv (j9 rfl b rfl) (mv rfl (bt ax (fun d G => ?_) (fun d G => ?_))))
  ·refine lu d (lu d (lu d (lu d (lv (K5 rfl d rfl) (d7 ?_)))))
   cases oi G
   exact qd ⟨ay, rfl, D, (((k.le.trans l.le).trans m.le).trans C.le)⟩
  refine lg d (d6 rfl) (lg d (d6 rfl) ?_)
  obtain ⟨bl, az, aA⟩ := ob G
  refine x9 (wg rfl rfl d) rfl (x8 (vs := [V6 q2, V6 q1, V6 1280]) a2W rfl) (A7 F D.enter0 ad S (by decide : d9 1280) az) ?_
  rintro bm bn ⟨aB, rfl, V⟩
  refine ⟨_, rfl, ?_⟩
  have aC := (D.c0 V).t1
  refine lg d (y4 rfl) (lv (j9 rfl d rfl) (d7 ?_))
  cases oi aA
  exact qd ⟨aB, rfl, aC, ((((k.le.trans l.le).trans m.le).trans C.le).trans V.le)⟩
 rintro _ bo ⟨H, rfl, aD, bp⟩
 refine j6 (B5 ai rfl (fun aE I => ?_) (fun aE I => ?_))
 ·refine sr ?_
  cases I
 refine i6 (qr (lv (L3 rfl) (ns ?_)))
 obtain ⟨W, aF, aG⟩ := ob I
 refine j4 (IW w K [] H [(0, V6 q0), (1, V6 q1), (2, V6 q2), (3, V6 q3), (10, pt i), (12, V6 W)] [q8 i [V6 0, V6 0] 73] (d9 W)) ?_ ?_
 ·refine i5 ?_
  obtain ⟨bq, aH, aI⟩ := ob aF
  refine qw (fun (J : Int) => IW w K [] H [(0, V6 q0), (1, V6 q1), (2, V6 q2), (3, V6 q3), (4, V6 q4), (10, pt i), (12, V6 J)] [q8 i [V6 0, V6 0] 73] (d9 J)) aH ⟨H, rfl, aD, kr, I0⟩ ?_
  rintro J _ br bs aJ aK ⟨X, rfl, Y, aa, aL⟩
  refine k8 (sr (mv rfl (mv rfl (lv (s6 rfl rfl) ?_))))
  obtain ⟨bu, aM, aN⟩ := ob aJ
  refine lv (b8v rfl rfl aM) (mv rfl (lv (R9 rfl rfl) (nq (B5 aN rfl (fun aO O => ?_) (fun aO O => ?_)))))
  ·refine i6 (j6 (i5 (i7 (mv rfl (lv (s6 rfl rfl) (av rfl (nb ?_)))))))
   cases oi O
   exact qd ⟨_, rfl, X, rfl, Y, aa, (l9 _)⟩
  refine q7 (d4 (d4 ?_))
  cases oi O
  cases aK _ rfl
  refine j5 ?_
  cases oi aI
  exact qd ⟨X, rfl, Y, aa, aL⟩
 rintro _ bv ⟨bx, rfl, ab, bz, bA⟩
 refine qr (mv rfl (lv (I9 rfl rfl) (mv rfl (lv (s6 rfl rfl) (lv (I9 rfl rfl) (mv rfl (lv (I9 rfl rfl) (lv (s6 rfl rfl) (mv rfl ?_)))))))))
 refine lv (I9 rfl rfl) (mv rfl (lv (I9 rfl rfl) (mv rfl ?_)))
 obtain ⟨bB, aP, aQ⟩ := ob aG
 refine lv (a2d rfl rfl aP) (lv (s6 rfl rfl) ?_)
 obtain ⟨o, aR, aS⟩ := ob aQ
 refine lk c0a (a9U F ab.enter0 (l9 _) (l9 _) aR) ?_
 rintro bC bD ⟨aT, rfl, aU, aV, aW⟩
 have aX := (ab.c0 aU).t1
 refine lv (B3 rfl rfl) (lv (B3 rfl rfl) (lw [V6 o.1.Up, V6 o.1.Down] W5 aX fun bE ac => (av rfl (nq (i9 ?_)))))
 cases oi aS
 exact R8 (vs := [_, _]) results40 ⟨⟨_, _, rfl, A8 W5 (cs := [V6 o.1.Up, V6 o.1.Down]) (fun j c e => by rw [Nat.zero_add, ac.mem_obj m0]; exact e) (.inl ⟨rfl, rfl, rfl⟩)⟩, rfl, trivial⟩ ⟨aT, rfl, ac.s, aV, aW⟩

theorem P5 {q0 : N3} {q1 : q9} {q2 : k6} {q3 : Int} {r : Int} (hS : SH w K Z w K [q8 g1 [V3 A a b, V3 B c d, V3 C f i, V3 D k l] 123]) (af : b7 B8 K A a b q0.c_.Stops) (ag : b7 I4 K B c d q0.c_.Syns) (ah : b7 E1 K C f i q0.s_.Docs) (ai : b7 z6 K D k l q0.s_.Entries) (aj : b7 B8 K G m n q1.Stops) (ak : b7 I4 K H o p q1.Syns) (am : q2.length ≤ maxLen) (an : d9 q3) (hm : F5 F q0 q1 q2 q3 = some r) :
  Calls prog 93 #[.pointer (some ⟨g1, 2, none⟩), .agg #[V3 G m n, V3 H o p], sv q2, V6 q3] w fun e w' => ∃ K', e = .returned (V6 r) ∧ SH w K Z w' K' [q8 g1 [V3 A a b, V3 B c d, V3 C f i, V3 D k l] 123] ∧ d9 r := by
 rw [F5] at hm
 refine ci func93 rfl ntmps93 (sr (bx rfl hS fun X aI ao => ?_))
 have ap : SH _ _ _ _ _ [q8 X [V3 G m n, V3 H o p] 26, _] := ao
 refine lv (L3 rfl) (nr (mv rfl (mv rfl ?_)))
 obtain ⟨I, aq, ar⟩ := ob hm
 have Y := ap.f1
 refine lk b9H (a2M F Y.e1 af ag ah ai an aq) ?_
 rintro aJ aK ⟨J, O, R, S, T, U, aa, rfl, V, au, aw, ax⟩
 have ay := (Y.c1 V).t2
 refine mv rfl (lv (B3 rfl rfl) (lv (B3 rfl rfl) (al C0 ay fun ab aL az => ?_)))
 have aA : SH _ _ _ _ _ [q8 ab [V6 0, V3 none 0 0, V3 none 0 0] 54, _, _] := az
 refine lw [V6 I.1.Id, V3 J O R, V3 S T U] C0 aA fun aM ac => (av rfl (P6 (mv rfl (lv (y4 rfl) (nq (B5 ar rfl (fun aB W => ?_) (fun aB W => ?_)))))))
 ·refine sr (lv (L3 rfl) (nq (rr ?_)))
  cases oi W
  exact ey results93 ⟨aa, rfl, ac.s, I0⟩
 refine i6 (qs ?_)
 have q := ac.drew
 refine wh1 (fun w' => E7 aa w' ∧ y7 X [V3 G m n, V3 H o p] w' ∧ y7 ab [V6 I.1.Id, V3 J O R, V3 S T U] w') (fun w' => True) 7 [] mixed ⟨q.hasK kr, q.hasObj m2, q.hasObj m0⟩ (fun _ => trivial) (gh (fun _ h => B2 (ds := [V3 G m n, V3 H o p]) E6 rfl rfl rfl h.2.1) (gh (fun _ h => B2 (ds := [V6 I.1.Id, V3 J O R, V3 S T U]) C0 rfl rfl rfl h.2.2) (gt (d6 rfl) (gn ?_))))
 obtain ⟨aN, aC, aD⟩ := ob W
 refine lk b8W (a60 F q.enter0 au aw ax am aC) ?_
 rintro aO aP ⟨aQ, rfl, s, aE⟩
 have x := (q.c0 s).t3
 refine d7 (qh ⟨x.hasK s.le, x.hasObj m2, x.hasObj m0⟩ (fun _ => trivial) (gn ?_))
 obtain ⟨aR, aF, aG⟩ := ob aD
 refine lk b6v (a1u F x.enter0 (aj.mono (V.le.trans s.le)) (ak.mono (V.le.trans s.le)) aE aF) ?_
 rintro aS aT ⟨aU, aV, aW, aH, rfl, ad, ae⟩
 have y := (x.c0 ad).t4
 refine d7 (qh ⟨y.hasK (s.le.trans ad.le), y.hasObj m3, y.hasObj m1⟩ (fun _ => trivial) (gt (k9 underlying114 rfl ae) (gt (r9 rfl) (gd' (j6 (i9 ?_))))))
 cases oi aG
 exact ey results93 ⟨aH, rfl, y.s, ae.rn⟩

theorem a0h {q0 : N3} {q1 : k6} {q2 : k6} {q3 : Int} {r : Int} (hS : SH w K Z w K [q8 g1 [V3 A a b, V3 B c d, V3 C f i, V3 D k l] 123]) (x : b7 B8 K A a b q0.c_.Stops) (y : b7 I4 K B c d q0.c_.Syns) (s : b7 E1 K C f i q0.s_.Docs) (O : b7 z6 K D k l q0.s_.Entries) (R : q1.length ≤ maxLen) (ab : q2.length ≤ maxLen) (au : d9 q3) (hm : G1 F q0 q1 q2 q3 = some r) :
  Calls prog 83 #[.pointer (some ⟨g1, 0, none⟩), sv q1, sv q2, V6 q3] w fun e w' => ∃ K', e = .returned (V6 r) ∧ SH w K Z w' K' [q8 g1 [V3 A a b, V3 B c d, V3 C f i, V3 D k l] 123] ∧ d9 r := by
 rw [G1] at hm
 refine ci func83 rfl ntmps83 (sr (lv (L3 rfl) (nr (mv rfl (mv rfl (mv rfl (mv rfl ?_)))))))
 obtain ⟨cx, bq, br⟩ := ob hm
 refine lk b5n (a0g F hS.e1 x y s O R ab au bq) ?_
 rintro cy cz ⟨aY, aZ, ba, ac, rfl, m, S⟩
 have aw := (hS.c1 m).t1
 refine av rfl (P6 (mv rfl (lv (k9 underlying55 rfl S) (lv (u3 rfl rfl) (nq (B5 br rfl (fun bs ax => ?_) (fun bs ax => ?_)))))))
 ·refine sr (lv (L3 rfl) (nq (rr ?_)))
  cases oi ax
  exact ey results83 ⟨ac, rfl, aw, I0⟩
 refine i6 (qr (lv (L3 rfl) (P6 (mv rfl (lv (v8 rfl) (fa a3j rfl (fl a03 rfl a5w m0 aw rfl (lv (k9 underlying35 rfl (s.mono m.le)) (lv (r_m rfl) ?_)))))))))
 refine nq ?_
 obtain ⟨bb, bu, bv⟩ := ob ax
 refine j4 (IW w K Z ac [(0, pt g1), (1, sv q1), (2, sv q2), (3, V6 q3), (9, V3 aY aZ ba), (10, V6 bb)] [q8 g1 [V3 A a b, V3 B c d, V3 C f i, V3 D k l] 123] (d9 bb)) ?_ ?_
 ·refine i5 ?_
  obtain ⟨cA, bx, bz⟩ := ob bu
  refine qF (fun (bc : Nat) (ad : Int) => IW w K Z ac [(0, pt g1), (1, sv q1), (2, sv q2), (3, V6 q3), (9, V3 aY aZ ba), (10, V6 ad), (27, V3 C f i), (28, V6 (q0.s_.Docs.length : Int)), (29, V6 ((bc : Nat) : Int))] [q8 g1 [V3 A a b, V3 B c d, V3 C f i, V3 D k l] 123] (d9 ad)) bx ⟨ac, rfl, aw, kr, I0⟩ ?_ ?_
  ·rintro bc ad _ bA cB hi54 bB ⟨ay, rfl, ae, G, bd⟩
   refine sr (lv (n8 rfl rfl) (ns (A3 rfl (c7 (by omega)) (i6 (j6 (k8 (i5 (sr ?_))))))))
   obtain ⟨az, bC, bD⟩ := ob bB
   refine li underlying35 C0 (s.mono (m.le.trans G)) bC fun bE bF cC bG bH => ?_
   obtain ⟨aA, aB, aC, aD, aE, aF, rfl, bI, cD, cE⟩ := bG
   have bJ : D0 _ bE bF [V6 az.Id, V3 aA aB aC, V3 aD aE aF] := bH
   refine lv (D4 C0 rfl ae bJ rfl) (al C0 ae fun be cF bK => ?_)
   have bL : SH _ _ _ _ _ [q8 be [V6 0, V3 none 0 0, V3 none 0 0] 54, _] := bK
   refine lw [V6 az.Id, V3 aA aB aC, V3 aD aE aF] C0 bL fun cG bM => (nq ?_)
   have af := bM.drew
   refine wh1 (fun w' => E7 ay w' ∧ y7 g1 [V3 A a b, V3 B c d, V3 C f i, V3 D k l] w' ∧ y7 be [V6 az.Id, V3 aA aB aC, V3 aD aE aF] w') (fun w' => True) 14 [] mixed ⟨af.hasK kr, af.hasObj m1, af.hasObj m0⟩ (fun _ => trivial) (gt (d6 rfl) (gt (d6 rfl) (gt (v8 rfl) (gt (b8 a3j rfl) (gt (d6 rfl) (gt (v8 rfl) (gt (b8 a8x rfl) (gh (fun _ h => B2 (ds := [V3 A a b, V3 B c d]) E6 rfl rfl rfl h.2.1) (gt (d6 rfl) ?_)))))))))
   refine gt (b8 X7 rfl) (gh (fun _ h => y2 D8 rfl rfl h.2.2) (gn ?_))
   obtain ⟨cH, bN, bO⟩ := ob bD
   have bf := af.f1
   refine lk b71 (P5 F bf.e1 (x.mono (m.le.trans G)) (y.mono (m.le.trans G)) (s.mono (m.le.trans G)) (O.mono (m.le.trans G)) (x.mono (m.le.trans G)) (y.mono (m.le.trans G)) R bI bN) ?_
   rintro cI cJ ⟨bP, rfl, aG, cK⟩
   have ag := (bf.c1 aG).t2
   refine d7 (qh ⟨ag.hasK aG.le, ag.hasObj m0, ag.hasObj m1⟩ (fun _ => trivial) (gt (s6 rfl rfl) (gt (r9 rfl) (gd' (o0 (qg (lv (y3 rfl rfl (A0 hi54 (b7.max (s.mono m.le)))) (mv rfl (d7 ?_)))))))))
   cases oi bO
   exact qd ⟨bP, rfl, ag.s, (G.trans aG.le), (l9 _)⟩
  rintro ad _ bA bQ ⟨ay, rfl, ae, G, bd⟩
  subst bQ
  refine sr (lv (n8 rfl rfl) (ns (A2 rfl (c6 (by omega)) (q7 (d4 (d4 (j5 ?_)))))))
  cases oi bz
  exact qd ⟨ay, rfl, ae, G, bd⟩
 rintro _ cL ⟨bg, rfl, bR, o, ah⟩
 refine qs ?_
 obtain ⟨T, bS, bT⟩ := ob bv
 refine j4 (fun E' w' => ∃ aH aI, E' = [(0, pt g1), (13, pt aH)] ∧ SH w K Z w' aI [q8 aH [V6 T.Up, V6 T.Down] 73, q8 g1 [V3 A a b, V3 B c d, V3 C f i, V3 D k l] 123] ∧ H6 bg aI ∧ d9 T.Up ∧ d9 T.Down) ?_ ?_
 ·obtain ⟨cM, bh, bU⟩ := ob bS
  obtain ⟨cN, aJ, bV⟩ := ob bU
  obtain ⟨J, ai, aj⟩ := ob bV
  have U := bR.drew
  refine j_0 (fun w' => E7 bg w' ∧ y7 g1 [V3 A a b, V3 B c d, V3 C f i, V3 D k l] w') 33 [] mixed ⟨U.hasK kr, U.hasObj m0⟩ (jv 0 rfl (d6 rfl) (jv 1 rfl (k9 underlying55 rfl (S.mono o)) (jv 2 rfl (d6 rfl) (jv 3 rfl (v8 rfl) (jv 4 rfl (b8 a3j rfl) (jv 5 rfl (d6 rfl) (jv 6 rfl (v8 rfl) (jv 7 rfl (b8 a8x rfl) (jh 8 rfl (fun _ h => B2 (ds := [V3 A a b, V3 B c d]) E6 rfl rfl rfl h.2) ?_)))))))))
  refine jv 9 rfl (d6 rfl) (jv 10 rfl (d6 rfl) (jv 12 rfl (d6 rfl) (jv 13 rfl (d6 rfl) (jv 14 rfl (v8 rfl) (jv 15 rfl (b8 a3j rfl) (jv 16 rfl (b8 a03 rfl) (jh 17 rfl (fun _ h => y2 a5w rfl rfl h.2) (jv 18 rfl (k9 underlying35 rfl (s.mono (m.le.trans o))) (jv 19 rfl (d6 rfl) ?_)))))))))
  refine jv 20 rfl (v8 rfl) (jv 21 rfl (b8 a3j rfl) (jv 22 rfl (d6 rfl) (jv 23 rfl (d6 rfl) (j2 11 30 rfl rfl ?_ ?_))))
  ·refine lk b71 (P5 F U.e1 (x.mono (m.le.trans o)) (y.mono (m.le.trans o)) (s.mono (m.le.trans o)) (O.mono (m.le.trans o)) (x.mono (m.le.trans o)) (y.mono (m.le.trans o)) R au bh) ?_
   rintro cO cP ⟨cQ, rfl, q, aK⟩
   have V := (U.c1 q).t1
   refine W2 ⟨V.hasK q.le, V.hasObj m0⟩ (j2 24 30 rfl rfl ?_ ?_)
   ·refine lk b6w (I3 F V.e1 (x.mono ((m.le.trans o).trans q.le)) (y.mono ((m.le.trans o).trans q.le)) (s.mono ((m.le.trans o).trans q.le)) (O.mono ((m.le.trans o).trans q.le)) R ab aJ) ?_
    rintro cR cS ⟨cT, cU, cV, cW, rfl, H, aL⟩
    have W := (V.c1 H).t1
    refine W2 ⟨W.hasK (q.le.trans H.le), W.hasObj m0⟩ (jv 25 rfl (k9 underlying57 rfl aL) (j2 26 30 rfl rfl ?_ ?_))
    ·refine lk b6u (a0n F W.enter0 (S.mono o).rn aK ah (s.mono (m.le.trans o)).rn aL.rn ai) ?_
     rintro cX cY ⟨bW, rfl, X, bX, bY⟩
     have aM := (W.c0 X).t1
     refine W2 ⟨aM.hasK ((q.le.trans H.le).trans X.le), aM.hasObj m0⟩ (jv 27 rfl (d6 rfl) (jv 28 rfl (B3 rfl rfl) (jv 29 rfl (B3 rfl rfl) (j1 30 rfl (al W5 aM fun bi cZ bZ => ?_)))))
     have aN : SH _ _ _ _ _ [q8 bi [V6 0, V6 0] 73, _] := bZ
     refine W2 ⟨aN.hasK ((q.le.trans H.le).trans X.le), aN.hasObj m1⟩ (j1 31 rfl (lw [V6 J.1.Up, V6 J.1.Down] W5 aN fun da aO => (W2 ⟨aO.hasK ((q.le.trans H.le).trans X.le), aO.hasObj m1⟩ (jv 32 rfl (r9 rfl) (jd ?_)))))
     cases oi aj
     exact qd ⟨bi, bW, rfl, aO, ((q.le.trans H.le).trans X.le), bX, bY⟩
    refine al W5 W fun bj db ca => ?_
    have ak : SH _ _ _ _ _ [q8 bj [V6 0, V6 0] 73, _] := ca
    refine W2 ⟨ak.hasK (q.le.trans H.le), ak.hasObj m1⟩ (j1 26 rfl (lk b6u (a0n F ak.enter0 (S.mono o).rn aK ah (s.mono (m.le.trans o)).rn aL.rn ai) ?_))
    rintro dc dd ⟨cb, rfl, am, cc, cd⟩
    have aP := (ak.c0 am).t2
    refine W2 ⟨aP.hasK ((q.le.trans H.le).trans am.le), aP.hasObj m1⟩ (jv 27 rfl (d6 rfl) (jv 28 rfl (B3 rfl rfl) (jv 29 rfl (B3 rfl rfl) (j1 31 rfl (lw [V6 J.1.Up, V6 J.1.Down] W5 aP fun de aQ => (W2 ⟨aQ.hasK ((q.le.trans H.le).trans am.le), aQ.hasObj m1⟩ (jv 32 rfl (r9 rfl) (jd ?_))))))))
    cases oi aj
    exact qd ⟨bj, cb, rfl, aQ, ((q.le.trans H.le).trans am.le), cc, cd⟩
   refine al W5 V fun bk df ce => ?_
   have aR : SH _ _ _ _ _ [q8 bk [V6 0, V6 0] 73, _] := ce
   refine W2 ⟨aR.hasK q.le, aR.hasObj m1⟩ (j1 24 rfl ?_)
   have bl := aR.f1
   refine lk b6w (I3 F bl.e1 (x.mono ((m.le.trans o).trans q.le)) (y.mono ((m.le.trans o).trans q.le)) (s.mono ((m.le.trans o).trans q.le)) (O.mono ((m.le.trans o).trans q.le)) R ab aJ) ?_
   rintro dg dh ⟨di, dj, dk, dl, rfl, Y, bm⟩
   have an := (bl.c1 Y).t2
   refine W2 ⟨an.hasK (q.le.trans Y.le), an.hasObj m0⟩ (jv 25 rfl (k9 underlying57 rfl bm) (j1 26 rfl (lk b6u (a0n F an.enter0 (S.mono o).rn aK ah (s.mono (m.le.trans o)).rn bm.rn ai) ?_)))
   rintro dm dn ⟨cf, rfl, ao, cg, ch⟩
   have aS := (an.c0 ao).t2
   refine W2 ⟨aS.hasK ((q.le.trans Y.le).trans ao.le), aS.hasObj m0⟩ (jv 27 rfl (d6 rfl) (jv 28 rfl (B3 rfl rfl) (jv 29 rfl (B3 rfl rfl) (j1 31 rfl (lw [V6 J.1.Up, V6 J.1.Down] W5 aS.f1 fun dp aT => (W2 ⟨aT.hasK ((q.le.trans Y.le).trans ao.le), aT.hasObj m1⟩ (jv 32 rfl (r9 rfl) (jd ?_))))))))
   cases oi aj
   exact qd ⟨bk, cf, rfl, aT, ((q.le.trans Y.le).trans ao.le), cg, ch⟩
  refine al W5 U fun bn dq cj => ?_
  have aU : SH _ _ _ _ _ [q8 bn [V6 0, V6 0] 73, _] := cj
  refine W2 ⟨aU.hasK kr, aU.hasObj m1⟩ (j1 11 rfl ?_)
  have bo := aU.f1
  refine lk b71 (P5 F bo.e1 (x.mono (m.le.trans o)) (y.mono (m.le.trans o)) (s.mono (m.le.trans o)) (O.mono (m.le.trans o)) (x.mono (m.le.trans o)) (y.mono (m.le.trans o)) R au bh) ?_
  rintro dr dt ⟨du, rfl, I, ck⟩
  have ap := (bo.c1 I).t2
  refine W2 ⟨ap.hasK I.le, ap.hasObj m0⟩ (j1 24 rfl (lk b6w (I3 F ap.e1 (x.mono ((m.le.trans o).trans I.le)) (y.mono ((m.le.trans o).trans I.le)) (s.mono ((m.le.trans o).trans I.le)) (O.mono ((m.le.trans o).trans I.le)) R ab aJ) ?_))
  rintro dv dw ⟨dx, dy, dz, dA, rfl, aa, bp⟩
  have aq := (ap.c1 aa).t2
  refine W2 ⟨aq.hasK (I.le.trans aa.le), aq.hasObj m0⟩ (jv 25 rfl (k9 underlying57 rfl bp) (j1 26 rfl (lk b6u (a0n F aq.enter0 (S.mono o).rn ck ah (s.mono (m.le.trans o)).rn bp.rn ai) ?_)))
  rintro dB dC ⟨cl, rfl, ar, cm, cn⟩
  have aV := (aq.c0 ar).t2
  refine W2 ⟨aV.hasK ((I.le.trans aa.le).trans ar.le), aV.hasObj m0⟩ (jv 27 rfl (d6 rfl) (jv 28 rfl (B3 rfl rfl) (jv 29 rfl (B3 rfl rfl) (j1 31 rfl (lw [V6 J.1.Up, V6 J.1.Down] W5 aV.f1 fun dD aW => (W2 ⟨aW.hasK ((I.le.trans aa.le).trans ar.le), aW.hasObj m1⟩ (jv 32 rfl (r9 rfl) (jd ?_))))))))
  cases oi aj
  exact qd ⟨bn, cl, rfl, aW, ((I.le.trans aa.le).trans ar.le), cm, cn⟩
 rintro _ dE ⟨aH, aI, rfl, aX, dF, cp, cq⟩
 refine qr (lv (l3 (ds := [V6 T.Up, V6 T.Down]) W5 rfl m0 aX rfl rfl) ?_)
 obtain ⟨dG, cr, cs⟩ := ob bT
 refine lk b9Z (a62 F aX.enter0 cp cq (by decide : d9 1000) cr) ?_
 rintro dH dI ⟨ct, rfl, cu, cv⟩
 have cw := (aX.c0 cu).t2
 refine av rfl (nq (i9 ?_))
 cases oi cs
 exact ey results83 ⟨ct, rfl, cw.s, cv⟩

theorem a61 {q0 : List (List Int)} {q1 : Int} {r : (List Int)} (hS : SH w K [] w K []) (T : b7 (O4 B7) K A a b q0) (aJ : d9 q1) (hm : Y5 F q0 q1 = some r) :
  Calls prog 179 #[V3 A a b, V6 q1] w fun e w' => ∃ a_1 n_2 c_3 K', e = .returned (V3 a_1 n_2 c_3) ∧ SH w K [] w' K' [tail (V3 a_1 n_2 c_3) 3 1] ∧ b7 B7 K' a_1 n_2 c_3 r := by
 rw [Y5] at hm
 refine ci func179 rfl ntmps179 (sr (lv (r_n rfl) (nr (b0 B7 underlying55 D8 hS fun U w7 K8 V ar au => (av rfl (ns (k8 ?_)))))))
 obtain ⟨aL, aM, aN⟩ := ob hm
 refine j4 (IV w K [] K8 [(0, V3 A a b), (1, V6 q1), (5, V3 U 0 0), (22, .bool aL)] [tail (V3 U 0 0) 3 1]) ?_ ?_
 ·refine i7 (mv rfl ?_)
  obtain ⟨cu, aO, aP⟩ := ob aM
  refine lk b9p (a64 F au.enter0 (T.mono V) aO) ?_
  rintro cv cw ⟨aQ, rfl, ad⟩
  have ae := (au.c0 ad).t1
  refine lv (y4 rfl) (mv rfl (bt aP (fun k af => ?_) (fun k af => ?_)))
  ·refine lu k (lu k (lu k (lv (K5 rfl k rfl) (d7 ?_))))
   cases oi af
   exact qd ⟨aQ, rfl, ae, ad.le⟩
  refine lg k (d6 rfl) ?_
  obtain ⟨cx, aR, aS⟩ := ob af
  refine x9 (wg rfl rfl k) rfl (x8 (vs := [V6 q1, V6 0, V6 5]) a2W rfl) (A7 F ae.enter0 aJ I0 (by decide : d9 5) aR) ?_
  rintro cy cz ⟨aT, rfl, aw⟩
  refine ⟨_, rfl, ?_⟩
  have aU := (ae.c0 aw).t1
  refine lg k (y4 rfl) (lv (j9 rfl k rfl) (d7 ?_))
  cases oi aS
  exact qd ⟨aT, rfl, aU, (ad.le.trans aw.le)⟩
 rintro _ cA ⟨W, rfl, ag, B⟩
 refine j6 (B5 aN rfl (fun aV ah => ?_) (fun aV ah => ?_))
 ·refine sr (mv rfl (av rfl (nq (rr ?_))))
  cases oi ah
  exact ey results179 ⟨U, 0, 0, W, rfl, ag, (ar.mono B)⟩
 refine i6 (qs (sr (mv rfl ?_)))
 obtain ⟨C, aW, aX⟩ := ob ah
 refine li underlying211 Y3 (T.mono (V.trans B)) aW fun aY aZ cB ba bb => ?_
 obtain ⟨q, s, x, rfl, X⟩ := ba
 have bc : D0 _ aY aZ [V3 q s x] := bb
 refine lv (u0 Y3 rfl ag (bc 0 _ rfl)) (lv (k9 underlying55 rfl X) (lv (r_m rfl) (nq ?_)))
 obtain ⟨bd, be, bf⟩ := ob aX
 refine j4 (fun E' w' => ∃ D G H I, E' = [(5, V3 D G H)] ∧ SH w K [] w' I [tail (V3 D G H) 3 1] ∧ H6 W I ∧ b7 B7 I D G H bd) ?_ ?_
 ·refine i5 ?_
  obtain ⟨cC, bg, bh⟩ := ob be
  refine qF (fun (y : Nat) (ai : (List Int)) E' w' => ∃ c d f l, E' = [(0, V3 A a b), (1, V6 q1), (5, V3 c d f), (26, V3 q s x), (27, V6 (C.length : Int)), (28, V6 ((y : Nat) : Int))] ∧ SH w K [] w' l [tail (V3 c d f) 3 1] ∧ H6 W l ∧ b7 B7 l c d f ai) bg ⟨U, 0, 0, W, rfl, ag, kr, (ar.mono B)⟩ ?_ ?_
  ·rintro y ai _ bi cD hi77 bj ⟨c, d, f, l, rfl, Y, o, aa⟩
   refine sr (lv (n8 rfl rfl) (ns (A3 rfl (c7 (by omega)) (i6 (j6 (k8 (i5 (sr ?_))))))))
   obtain ⟨m, bk, bl⟩ := ob bj
   refine li underlying55 D8 (X.mono o) bk fun bm bn cE bo bp => ?_
   obtain ⟨rfl, ax⟩ := bo
   have bq : D0 _ bm bn [V6 m] := bp
   refine lv (u0 D8 rfl Y (bq 0 _ rfl)) (av rfl (nr (mv rfl (av rfl (lv (r_t rfl) (P6 (mv rfl ?_)))))))
   obtain ⟨ay, br, bs⟩ := ob bl
   refine a6M (t := (O4 B7)) wn rfl underlying211 Y3 rfl rfl (T.mono ((V.trans B).trans o)) br fun az aA aB aj => (lv (k9 (t := (O4 B7)) underlying211 rfl aj) (lv (r_m rfl) (nq ?_)))
   obtain ⟨ak, bu, bv⟩ := ob bs
   refine j4 (IW w K [] l [(0, V3 A a b), (1, V6 q1), (5, V3 c d f), (7, V6 m), (8, V6 ak.1), (9, .bool ak.2), (26, V3 q s x), (27, V6 (C.length : Int)), (28, V6 ((y : Nat) : Int))] [tail (V3 c d f) 3 1] (d9 ak.1)) ?_ ?_
   ·refine i5 ?_
    obtain ⟨cF, bx, bz⟩ := ob bu
    refine qF (fun (al : Nat) (J : Int × Bool) => IW w K [] l [(0, V3 A a b), (1, V6 q1), (5, V3 c d f), (7, V6 m), (8, V6 J.1), (9, .bool J.2), (26, V3 q s x), (27, V6 (C.length : Int)), (28, V6 ((y : Nat) : Int)), (34, V3 az aA aB), (35, V6 (ay.length : Int)), (36, V6 ((al : Nat) : Int))] [tail (V3 c d f) 3 1] (d9 J.1)) bx ⟨l, rfl, Y, kr, ax⟩ ?_ ?_
    ·rintro al J _ bA cG hi116 bB ⟨aC, rfl, O, ab, aD⟩
     refine sr (lv (n8 rfl rfl) (ns (A3 rfl (c7 (by omega)) (i6 (j6 (k8 (i5 (sr ?_))))))))
     obtain ⟨cH, bC, bD⟩ := ob bB
     refine li underlying211 Y3 (aj.mono ab) bC fun bE bF cI bG bH => ?_
     obtain ⟨bI, bJ, bK, rfl, bL⟩ := bG
     have bM : D0 _ bE bF [V3 bI bJ bK] := bH
     refine lv (u0 Y3 rfl O (bM 0 _ rfl)) (av rfl (nr (mv rfl (mv rfl (lv (s6 rfl rfl) ?_)))))
     obtain ⟨bN, bO, bP⟩ := ob bD
     refine lk b9q (b01 F O.enter0 bL (l9 _) bO) ?_
     rintro cJ cK ⟨am, rfl, aE, bQ⟩
     have aF := (O.c0 aE).t1
     refine mv rfl (lv (B3 rfl rfl) (lv (B3 rfl rfl) (av rfl (av rfl (ns ?_)))))
     obtain ⟨bR, bS, bT⟩ := ob bP
     refine j4 (IV w K [] am [(0, V3 A a b), (1, V6 q1), (5, V3 c d f), (7, V6 m), (9, .bool bR), (12, V6 bN.1), (26, V3 q s x), (27, V6 (C.length : Int)), (28, V6 ((y : Nat) : Int)), (34, V3 az aA aB), (35, V6 (ay.length : Int)), (36, V6 ((al : Nat) : Int))] [tail (V3 c d f) 3 1]) ?_ ?_
     ·refine i7 (mv rfl (mv rfl (bt bS (fun R an => ?_) (fun R an => ?_))))
      ·refine lg R (d6 rfl) (lv (j3 rfl R rfl) (av rfl (d7 ?_)))
       cases oi an
       exact qd ⟨am, rfl, aF, kr⟩
      refine lu R (lv (F7 rfl R rfl) (av rfl (d7 ?_)))
      cases oi an
      exact qd ⟨am, rfl, aF, kr⟩
     rintro _ cL ⟨bU, rfl, bV, bW⟩
     refine j6 (i7 (mv rfl (av rfl (nb (qg (lv (y3 rfl rfl (A0 hi116 (b7.max aj))) (mv rfl (d7 ?_))))))))
     cases oi bT
     exact qd ⟨bU, rfl, bV, ((ab.trans aE.le).trans bW), bQ⟩
    rintro J _ bA bX ⟨aC, rfl, O, ab, aD⟩
    subst bX
    refine sr (lv (n8 rfl rfl) (ns (A2 rfl (c6 (by omega)) (q7 (d4 (d4 (j5 ?_)))))))
    cases oi bz
    exact qd ⟨aC, rfl, O, ab, aD⟩
   rintro _ cM ⟨ao, rfl, aG, S, cN⟩
   refine qs ?_
   obtain ⟨bY, bZ, ca⟩ := ob bv
   refine j4 (IV w K [] ao [(0, V3 A a b), (1, V6 q1), (5, V3 c d f), (7, V6 m), (26, V3 q s x), (27, V6 (C.length : Int)), (28, V6 ((y : Nat) : Int)), (64, .bool bY)] [tail (V3 c d f) 3 1]) ?_ ?_
   ·refine i7 (mv rfl (mv rfl (bt bZ (fun i ap => ?_) (fun i ap => ?_))))
    ·refine lg i (d6 rfl) (lg i (d6 rfl) (lg i (d6 rfl) (lg i (k9 (t := (O4 B7)) underlying211 rfl (b7.mono (((V.trans B).trans o).trans S) T)) (lg i (s6 rfl rfl) (lg i (F2 rfl rfl) (lg i (d6 rfl) (lg i (s6 rfl rfl) (lg i (R9 rfl rfl) (lv (j3 rfl i rfl) ?_)))))))))
     refine d7 ?_
     cases oi ap
     exact qd ⟨ao, rfl, aG, kr⟩
    iterate 9 refine lu i ?_
    refine lv (F7 rfl i rfl) (d7 ?_)
    cases oi ap
    exact qd ⟨ao, rfl, aG, kr⟩
   rintro _ cO ⟨cb, rfl, aH, ac⟩
   refine j6 (B5 ca rfl (fun cc aq => ?_) (fun cc aq => ?_))
   ·refine i7 (mv rfl (mv rfl (lb B7 (V6 m) [V6 m] m underlying55 D8 ⟨rfl, ax⟩ aH fun cP cQ cR aI cd ce => ?_)))
    obtain ⟨cS, cf, cg⟩ := ob aq
    refine lp underlying55 D8 (aa.mono ((S.trans ac).trans aI)) cd cf ce.f1 fun ch cj ck cT cl cm cn cp => (av rfl (nb (qg (lv (y3 rfl rfl (A0 hi77 (b7.max X))) (mv rfl (d7 ?_))))))
    cases oi cg
    exact qd ⟨ch, cj, ck, cl, rfl, cp.s, ((((o.trans S).trans ac).trans aI).trans cm), cn⟩
   refine i6 (o0 (qg (lv (y3 rfl rfl (A0 hi77 (b7.max X))) (mv rfl (d7 ?_)))))
   cases oi aq
   exact qd ⟨c, d, f, cb, rfl, aH, ((o.trans S).trans ac), (aa.mono (S.trans ac))⟩
  rintro ai _ bi cq ⟨c, d, f, l, rfl, Y, o, aa⟩
  subst cq
  refine sr (lv (n8 rfl rfl) (ns (A2 rfl (c6 (by omega)) (q7 (d4 (d4 (j5 ?_)))))))
  cases oi bh
  exact qd ⟨c, d, f, l, rfl, Y, o, aa⟩
 rintro _ cU ⟨D, G, H, I, rfl, cr, cV, cs⟩
 refine qr (mv rfl (av rfl (nq (i9 ?_))))
 cases oi bf
 exact ey results179 ⟨D, G, H, I, rfl, cr, cs⟩

theorem a4s {q0 : N3} {q1 : r5} {q2 : s7} {r : Int} (hS : SH w K Z w K [q8 g1 [V3 A a b, V3 B c d, V3 C f i, V3 D k l] 123]) (aQ : b7 B8 K A a b q0.c_.Stops) (aR : b7 I4 K B c d q0.c_.Syns) (bc : b7 E1 K C f i q0.s_.Docs) (bd : b7 z6 K D k l q0.s_.Entries) (du : d9 q1.Kind) (be : q1.Field.length ≤ maxLen) (bp : b7 B8 K G m n q1.Words) (bq : d9 q1.From) (dv : d9 q1.To) (dw : b7 E4 K H o p q1.Kids) (bf : d9 q2.Id) (dx : b7 F3 K I q s q2.Fields) (dy : b7 G5 K J v x q2.Nums) (hD : ¬ dr.D) (hm : O1 F q0 q1 q2 = some r) :
  Calls prog 130 #[.pointer (some ⟨g1, 0, none⟩), .agg #[V6 q1.Kind, sv q1.Field, V3 G m n, V6 q1.From, V6 q1.To, V3 H o p], .agg #[V6 q2.Id, V3 I q s, V3 J v x]] w fun e w' => ∃ K', e = .returned (V6 r) ∧ SH w K Z w' K' [q8 g1 [V3 A a b, V3 B c d, V3 C f i, V3 D k l] 123] ∧ d9 r := by
 rw [O1] at hm
 refine ci func130 rfl ntmps130 (sr (bx rfl hS fun U dz br => ?_))
 have bs : SH _ _ _ _ _ [q8 U [V6 q1.Kind, sv q1.Field, V3 G m n, V6 q1.From, V6 q1.To, V3 H o p] 42, _] := br
 refine bx rfl bs fun ac dA bu => ?_
 have bv : SH _ _ _ _ _ [q8 ac [V6 q2.Id, V3 I q s, V3 J v x] 54, _, _] := bu
 refine lv (L3 rfl) (ns ?_)
 have aw := bv.drew
 refine wh1 (fun w' => E7 K w' ∧ y7 g1 [V3 A a b, V3 B c d, V3 C f i, V3 D k l] w' ∧ y7 U [V6 q1.Kind, sv q1.Field, V3 G m n, V6 q1.From, V6 q1.To, V3 H o p] w') (fun w' => True) 9 [] mixed ⟨aw.hasK kr, aw.hasObj m2, aw.hasObj m1⟩ (fun _ => trivial) (gt (d6 rfl) (gt (v8 rfl) (gt (b8 a8x rfl) (gh (fun _ h => B2 (ds := [V3 A a b, V3 B c d]) E6 rfl rfl rfl h.2.1) (gt (b8 V9 rfl) (gh (fun _ h => y2 O5 rfl rfl h.2.2) (gn ?_)))))))
 obtain ⟨dB, bz, bA⟩ := ob hm
 refine lk b9e (b4t Tryz.strings_Join_none Tryz.strings_Join aw.enter0 bp hD bz) ?_
 rintro dC dD ⟨dE, rfl, y, bB⟩
 have ax := (aw.c0 y).t3
 refine d7 (qh ⟨ax.hasK y.le, ax.hasObj m2, ax.hasObj m1⟩ (fun _ => trivial) (gn ?_))
 obtain ⟨aS, bC, bD⟩ := ob bA
 refine lk b6v (a1u F ax.enter0 (aQ.mono y.le) (aR.mono y.le) bB bC) ?_
 rintro dF dG ⟨ah, ai, aj, bE, rfl, V, ay⟩
 have az := (ax.c0 V).t4
 refine d7 (qh ⟨az.hasK (y.le.trans V.le), az.hasObj m3, az.hasObj m2⟩ (fun _ => trivial) (gt (r9 rfl) (gd' (qs (sr (mv rfl (lv (k9 underlying114 rfl ay) (lv (u3 rfl rfl) (nq (B5 bD rfl (fun bF aT => ?_) (fun bF aT => ?_)))))))))))
 ·refine sr (lv (L3 rfl) (nq (rr ?_)))
  cases oi aT
  exact ey results130 ⟨bE, rfl, az.s, I0⟩
 refine i6 (qr (a3h (O4 B7) wn rfl underlying211 Y3 az fun bG dH aU R bH bI => (av rfl (nr (lv (L3 rfl) (P6 (mv rfl (lv (k9 underlying114 rfl (ay.mono R)) (lv (r_m rfl) ?_)))))))))
 refine nq ?_
 obtain ⟨aV, bJ, bK⟩ := ob aT
 refine j4 (fun E' w' => ∃ aD aE aF aG, E' = [(0, pt g1), (4, pt U), (8, V3 aD aE aF), (9, V6 aV.2)] ∧ SH w K Z w' aG [q8 g1 [V3 A a b, V3 B c d, V3 C f i, V3 D k l] 123, q8 U [V6 q1.Kind, sv q1.Field, V3 G m n, V6 q1.From, V6 q1.To, V3 H o p] 42, tail (V3 aD aE aF) 55 1] ∧ H6 aU aG ∧ b7 (O4 B7) aG aD aE aF aV.1 ∧ d9 aV.2) ?_ ?_
 ·refine i5 ?_
  obtain ⟨dI, bL, bM⟩ := ob bJ
  have bN := bI.f2.f3.f4.sb (sk (sk (sk (sk (sd sz)))))
  refine qF (fun (ab : Nat) (ad : (List (List Int)) × Int) E' w' => ∃ W X Y ak, E' = [(0, pt g1), (4, pt U), (5, pt ac), (7, V3 ah ai aj), (8, V3 W X Y), (9, V6 ad.2), (28, V3 ah ai aj), (29, V6 (aS.length : Int)), (30, V6 ((ab : Nat) : Int))] ∧ SH w K Z w' ak [q8 g1 [V3 A a b, V3 B c d, V3 C f i, V3 D k l] 123, q8 U [V6 q1.Kind, sv q1.Field, V3 G m n, V6 q1.From, V6 q1.To, V3 H o p] 42, q8 ac [V6 q2.Id, V3 I q s, V3 J v x] 54, tail (V3 W X Y) 55 1] ∧ H6 aU ak ∧ b7 (O4 B7) ak W X Y ad.1 ∧ d9 ad.2) bL ⟨bG, 0, 0, aU, rfl, bN, kr, bH, I0⟩ ?_ ?_
  ·rintro ab ad _ bO dJ hi110 bP ⟨W, X, Y, ak, rfl, aH, O, aW, bg⟩
   refine sr (lv (n8 rfl rfl) (ns (A3 rfl (c7 (by omega)) (i6 (j6 (k8 (i5 (sr (mv rfl ?_)))))))))
   obtain ⟨S, bQ, bR⟩ := ob bP
   refine li underlying114 F9 (ay.mono (R.trans O)) bQ fun bS bT dK bU bV => ?_
   obtain ⟨rfl, bh, dL⟩ := bU
   have bW : D0 _ bS bT [sv S.Text, V6 S.At] := bV
   refine lv (D4 F9 rfl aH bW rfl) (al F9 aH fun aA dM bX => ?_)
   have bY : SH _ _ _ _ _ [q8 aA [sv [], V6 0] 117, _, _, _, _] := bX
   refine av rfl (lw [sv S.Text, V6 S.At] F9 bY fun dN bZ => (nr (b0 B7 underlying55 D8 bZ fun ca dO dP T cb aI => (av rfl (P6 (mv rfl (fl Q1 rfl D9 m3 aI rfl (fl a1q rfl D9 m1 aI rfl (fl X7 rfl D8 m4 aI rfl ?_)))))))))
   obtain ⟨cc, cd, ce⟩ := ob bR
   have bi := aI.f2
   refine lk b5n (a0g F bi.e1 (b7.mono ((((y.le.trans V.le).trans R).trans O).trans T) aQ) (b7.mono ((((y.le.trans V.le).trans R).trans O).trans T) aR) (b7.mono ((((y.le.trans V.le).trans R).trans O).trans T) bc) (b7.mono ((((y.le.trans V.le).trans R).trans O).trans T) bd) be bh bf cd) ?_
   rintro dQ dR ⟨cf, cg, ch, aX, rfl, aa, aJ⟩
   have cj := (bi.c1 aa).t6
   refine lv (k9 underlying55 rfl aJ) (lv (r_m rfl) (nq ?_))
   obtain ⟨bj, ck, cl⟩ := ob ce
   refine j4 (fun E' w' => ∃ am an ao aK, E' = [(0, pt g1), (4, pt U), (5, pt ac), (7, V3 ah ai aj), (8, V3 W X Y), (9, V6 ad.2), (11, pt aA), (12, V3 am an ao), (28, V3 ah ai aj), (29, V6 (aS.length : Int)), (30, V6 ((ab : Nat) : Int))] ∧ SH w K Z w' aK [q8 g1 [V3 A a b, V3 B c d, V3 C f i, V3 D k l] 123, q8 U [V6 q1.Kind, sv q1.Field, V3 G m n, V6 q1.From, V6 q1.To, V3 H o p] 42, q8 ac [V6 q2.Id, V3 I q s, V3 J v x] 54, q8 aA [sv S.Text, V6 S.At] 117, tail (V3 W X Y) 55 1, tail (V3 am an ao) 3 1] ∧ H6 aX aK ∧ b7 B7 aK am an ao bj) ?_ ?_
   ·refine i5 ?_
    obtain ⟨dS, cm, cn⟩ := ob ck
    refine qF (fun (bk : Nat) (aY : (List Int)) E' w' => ∃ ae af ag ap, E' = [(0, pt g1), (4, pt U), (5, pt ac), (7, V3 ah ai aj), (8, V3 W X Y), (9, V6 ad.2), (10, V6 ((ab : Nat) : Int)), (11, pt aA), (12, V3 ae af ag), (28, V3 ah ai aj), (29, V6 (aS.length : Int)), (30, V6 ((ab : Nat) : Int)), (43, V3 cf cg ch), (44, V6 (cc.length : Int)), (45, V6 ((bk : Nat) : Int))] ∧ SH w K Z w' ap [q8 g1 [V3 A a b, V3 B c d, V3 C f i, V3 D k l] 123, q8 U [V6 q1.Kind, sv q1.Field, V3 G m n, V6 q1.From, V6 q1.To, V3 H o p] 42, q8 ac [V6 q2.Id, V3 I q s, V3 J v x] 54, q8 aA [sv S.Text, V6 S.At] 117, tail (V3 W X Y) 55 1, tail (V3 ae af ag) 3 1] ∧ H6 aX ap ∧ b7 B7 ap ae af ag aY) cm ⟨ca, 0, 0, aX, rfl, cj.f1.f5.f3.f5.f5.f5, kr, (cb.mono aa.le)⟩ ?_ ?_
    ·rintro bk aY _ cp dT hi180 cq ⟨ae, af, ag, ap, rfl, aL, aq, aM⟩
     refine sr (lv (n8 rfl rfl) (ns (A3 rfl (c7 (by omega)) (i6 (j6 (k8 (i5 (sr ?_))))))))
     obtain ⟨aN, cr, cs⟩ := ob cq
     refine li underlying55 D8 (aJ.mono aq) cr fun ct cu dU cv cw => ?_
     obtain ⟨rfl, dV⟩ := cv
     have cx : D0 _ ct cu [V6 aN] := cw
     refine lv (u0 D8 rfl aL (cx 0 _ rfl)) (av rfl (ns (C2 mixed (by kernel_rfl) aL (km rfl (kv (b8 a1r rfl) (kh (u2 D8 rfl m3 rfl) (km rfl ?_)))))))
     obtain ⟨aB, cy, cz⟩ := ob cs
     refine ki underlying114 F9 (b7.mono ((((R.trans O).trans T).trans aa.le).trans aq) ay) cy fun cA cB dW cC cD => ?_
     obtain ⟨rfl, dX, dY⟩ := cC
     have cE : D0 _ cA cB [sv aB.Text, V6 aB.At] := cD
     refine kv (b8 a1r rfl) (kh (z8 D8 rfl (cE 1 _ rfl)) (kv (F2 rfl rfl) (km rfl (kv (F2 rfl rfl) (kv (F2 rfl rfl) (kv (r9 rfl) (z7 ?_)))))))
     rintro dZ ⟨cF, bl, aO⟩
     refine qr (mv rfl (lv (a2F rfl rfl) (nq (B5 cz rfl (fun cG aZ => ?_) (fun cG aZ => ?_)))))
     ·refine i7 (mv rfl (mv rfl (lb B7 (V6 (u6 (aN - (u6 ((u6 (S.At - aB.At)) - ((ab : Nat) : Int)))))) [V6 (u6 (aN - (u6 ((u6 (S.At - aB.At)) - ((ab : Nat) : Int)))))] (u6 (aN - (u6 ((u6 (S.At - aB.At)) - ((ab : Nat) : Int))))) underlying55 D8 ⟨rfl, (l9 _)⟩ bl fun ea eb ec bm cH cI => ?_)))
      obtain ⟨ed, cJ, cK⟩ := ob aZ
      refine lp underlying55 D8 (aM.mono (aO.trans bm)) cH cJ cI.f6 fun cL cM cN ee cO cP cQ cR => (av rfl (nb (qg (lv (y3 rfl rfl (A0 hi180 (b7.max aJ))) (mv rfl (d7 ?_))))))
      cases oi cK
      exact qd ⟨cL, cM, cN, cO, rfl, cR.f6.f6.f6.f6.f6.s, (((aq.trans aO).trans bm).trans cP), cQ⟩
     refine i6 (o0 (qg (lv (y3 rfl rfl (A0 hi180 (b7.max aJ))) (mv rfl (d7 ?_)))))
     cases oi aZ
     exact qd ⟨ae, af, ag, cF, rfl, bl, (aq.trans aO), (aM.mono aO)⟩
    rintro aY _ cp cS ⟨ae, af, ag, ap, rfl, aL, aq, aM⟩
    subst cS
    refine sr (lv (n8 rfl rfl) (ns (A2 rfl (c6 (by omega)) (q7 (d4 (d4 (j5 ?_)))))))
    cases oi cn
    exact qd ⟨ae, af, ag, ap, rfl, aL, aq, aM⟩
   rintro _ ef ⟨am, an, ao, aK, rfl, cT, ar, cU⟩
   refine qr (mv rfl (mv rfl (lb (O4 B7) (V3 am an ao) [V3 am an ao] bj underlying211 Y3 ⟨_, _, _, rfl, cU⟩ cT fun eg eh ei au cV cW => ?_)))
   obtain ⟨ej, cX, cY⟩ := ob cl
   refine lp underlying211 Y3 (b7.mono (((T.trans aa.le).trans ar).trans au) aW) cV cX cW.f5 fun cZ da db ek el aC dc aP => (av rfl (nq (i7 (mv rfl (mv rfl (fl Q1 rfl D9 m3 aP rfl (fl a1q rfl D9 m5 aP rfl (fl X7 rfl D8 m4 aP rfl ?_))))))))
   obtain ⟨em, dd, de⟩ := ob cY
   have bn := aP.f2
   refine lk b7Y (a0h F bn.e1 (b7.mono ((((((((y.le.trans V.le).trans R).trans O).trans T).trans aa.le).trans ar).trans au).trans aC) aQ) (b7.mono ((((((((y.le.trans V.le).trans R).trans O).trans T).trans aa.le).trans ar).trans au).trans aC) aR) (b7.mono ((((((((y.le.trans V.le).trans R).trans O).trans T).trans aa.le).trans ar).trans au).trans aC) bc) (b7.mono ((((((((y.le.trans V.le).trans R).trans O).trans T).trans aa.le).trans ar).trans au).trans aC) bd) be bh bf dd) ?_
   rintro en eo ⟨df, rfl, ba, ep⟩
   have dg := (bn.c1 ba).t7
   refine lv (s6 rfl rfl) (av rfl (nb (qg (lv (y3 rfl rfl (A0 hi110 (b7.max (ay.mono R)))) (mv rfl (d7 ?_))))))
   cases oi de
   exact qd ⟨cZ, da, db, df, rfl, dg.f1.f4.f4.f3.s, ((((((O.trans T).trans aa.le).trans ar).trans au).trans aC).trans ba.le), (dc.mono ba.le), (l9 _)⟩
  rintro ad _ bO dh ⟨W, X, Y, ak, rfl, aH, O, aW, bg⟩
  subst dh
  refine sr (lv (n8 rfl rfl) (ns (A2 rfl (c6 (by omega)) (q7 (d4 (d4 (j5 ?_)))))))
  cases oi bM
  exact qd ⟨W, X, Y, ak, rfl, aH.s, O, aW, bg⟩
 rintro _ eq ⟨aD, aE, aF, aG, rfl, bb, es, di, et⟩
 refine qr (mv rfl (fl X6 rfl D8 m1 bb rfl ?_))
 obtain ⟨eu, dj, dk⟩ := ob bK
 refine lk b9f (a61 F bb.enter0 di bq dj) ?_
 rintro ev ew ⟨ex, eA, eB, dl, rfl, dm, dn⟩
 have dp := (bb.c0 dm).t4
 refine lv (k9 underlying55 rfl dn) (lv (b61 rfl rfl) (mv rfl (lv (I9 rfl rfl) ?_)))
 obtain ⟨eC, dq, dt⟩ := ob dk
 have bo := oi dq
 refine lv (b3O rfl (congrArg (Value.int .i64) bo)) (nq (i9 ?_))
 cases oi dt
 exact ey results130 ⟨dl, rfl, dp.s, (b5h bo (l9 _))⟩

theorem a4S (F : Nat) : ∀ {w : World} {K : C5} {g1 : Nat} {a : Option Addr} {b c : Nat} {d : Option Addr} {f i : Nat} {k : Option Addr} {l m : Nat} {o : Option Addr} {q s : Nat} {O : Option Addr} {R S : Nat} {G : Option Addr} {H I : Nat} {x : Option Addr} {y A : Nat} {B : Option Addr} {C D : Nat} {q0 : N3} {q1 : r5} {q2 : s7} {r : Int} (hS : SH w K (List.flatMap B6.gs [q8 g1 [V3 a b c, V3 d f i, V3 k l m, V3 o q s] 123]) w K [q8 g1 [V3 a b c, V3 d f i, V3 k l m, V3 o q s] 123]) (W : b7 B8 K a b c q0.c_.Stops) (X : b7 I4 K d f i q0.c_.Syns) (aa : b7 E1 K k l m q0.s_.Docs) (ab : b7 z6 K o q s q0.s_.Entries) (bM : d9 q1.Kind) (af : q1.Field.length ≤ maxLen) (aC : b7 B8 K O R S q1.Words) (aK : d9 q1.From) (aX : d9 q1.To) (aj : b7 E4 K G H I q1.Kids) (ac : d9 q2.Id) (ak : b7 F3 K x y A q2.Fields) (am : b7 G5 K B C D q2.Nums) (hD : ¬ dr.D) (hm : A6 F q0 q1 q2 = some r),
  Calls prog 77 #[.pointer (some ⟨g1, 0, none⟩), .agg #[V6 q1.Kind, sv q1.Field, V3 O R S, V6 q1.From, V6 q1.To, V3 G H I], .agg #[V6 q2.Id, V3 x y A, V3 B C D]] w fun e w' => ∃ K', e = .returned (V6 r) ∧ SH w K (List.flatMap B6.gs [q8 g1 [V3 a b c, V3 d f i, V3 k l m, V3 o q s] 123]) w' K' [q8 g1 [V3 a b c, V3 d f i, V3 k l m, V3 o q s] 123] ∧ d9 r := by
 induction F with
 | zero => intros; rename_i hm; rw [A6] at hm; cases hm
 | succ F ih =>
  intro w K g1 a b c d f i k l m o q s O R S G H I x y A B C D q0 q1 q2 r hS W X aa ab bM af aC aK aX aj ac ak am hD hm
  rw [A6] at hm
  refine ci func77 rfl ntmps77 (sr (bx rfl hS fun J hn cU => ?_))
  have cV : SH _ _ _ _ _ [q8 J [V6 q1.Kind, sv q1.Field, V3 O R S, V6 q1.From, V6 q1.To, V3 G H I] 42, _] := cU
  refine bx rfl cV fun T ho cW => ?_
  have U : SH _ _ _ _ _ [q8 T [V6 q2.Id, V3 x y A, V3 B C D] 54, _, _] := cW
  refine lv (L3 rfl) (P6 (fl a34 rfl D8 m1 U rfl (nq (i5 (sr (lv (u3 rfl rfl) (av rfl (nq (S3 rfl (fun aY => ?_) (fun aY => ?_))))))))))
  ·have aZ := a1R aY hm
   refine sr (lv (r9 (v := V6 100) rfl) (nq (i9 (d8 (c9 ?_)))))
   cases oi aZ
   exact ey results77 ⟨K, rfl, U.s, (by decide : d9 100)⟩
  have aZ := a1Q aY hm
  refine sr (lv (u3 rfl rfl) (av rfl (nq (B5 aZ rfl (fun cX ba => ?_) (fun cX ba => ?_)))))
  ·refine k8 ?_
   have aB := U.drew
   refine j_0 (fun w' => E7 K w' ∧ y7 J [V6 q1.Kind, sv q1.Field, V3 O R S, V6 q1.From, V6 q1.To, V3 G H I] w' ∧ y7 g1 [V3 a b c, V3 d f i, V3 k l m, V3 o q s] w' ∧ y7 T [V6 q2.Id, V3 x y A, V3 B C D] w') 16 [] mixed ⟨aB.hasK kr, aB.hasObj m1, aB.hasObj m2, aB.hasObj m0⟩ (jv 0 rfl (d6 rfl) (jv 1 rfl (b8 Q1 rfl) (jh 2 rfl (fun _ h => y2 D9 rfl rfl h.2.1) (jv 3 rfl (d6 rfl) (jv 4 rfl (v8 rfl) (jv 5 rfl (b8 a8x rfl) (jh 6 rfl (fun _ h => B2 (ds := [V3 a b c, V3 d f i]) E6 rfl rfl rfl h.2.2.1) (jv 7 rfl (b8 V9 rfl) (jh 8 rfl (fun _ h => y2 O5 rfl rfl h.2.1) ?_)))))))))
   obtain ⟨cY, cZ, da⟩ := ob ba
   refine ji 9 rfl underlying23 D9 aC cZ fun db dc hp dd de => ?_
   obtain ⟨rfl, df⟩ := dd
   have dg : D0 _ db dc [sv cY] := de
   refine jh 10 rfl (fun _ h => a0M D9 rfl (dg 0 _ rfl) h.1) (jv 12 rfl (b8 X7 rfl) (jh 13 rfl (fun _ h => y2 D8 rfl rfl h.2.2.2) (j1 11 rfl ?_)))
   obtain ⟨hq, dh, di⟩ := ob da
   refine lk b9Y (a88 F aB.enter0 W X df dh) ?_
   rintro hr ht ⟨hu, rfl, aq, dj⟩
   have aD := (aB.c0 aq).t3
   refine W2 ⟨aD.hasK aq.le, aD.hasObj m1, aD.hasObj m2, aD.hasObj m0⟩ (j1 14 rfl ?_)
   obtain ⟨hv, dk, dl⟩ := ob di
   have bN := aD.f2
   refine lk b7Y (a0h F bN.e1 (W.mono aq.le) (X.mono aq.le) (aa.mono aq.le) (ab.mono aq.le) af dj ac dk) ?_
   rintro hw hx ⟨dm, rfl, bO, dn⟩
   have aE := (bN.c1 bO).t3
   refine W2 ⟨aE.hasK (aq.le.trans bO.le), aE.hasObj m2, aE.hasObj m0, aE.hasObj m1⟩ (jv 15 rfl (r9 rfl) (jd (j6 (i9 (d8 (c9 ?_))))))
   cases oi dl
   exact ey results77 ⟨dm, rfl, aE.s, dn⟩
  refine sr (lv (u3 rfl rfl) (av rfl (nq (B5 ba rfl (fun dp bb => ?_) (fun dp bb => ?_)))))
  ·refine sr (mv rfl (lv (l3 (ds := [V6 q1.Kind, sv q1.Field, V3 O R S, V6 q1.From, V6 q1.To, V3 G H I]) C3 rfl m1 U rfl rfl) (lv (l3 (ds := [V6 q2.Id, V3 x y A, V3 B C D]) C0 rfl m0 U rfl rfl) ?_)))
   obtain ⟨hy, dq, dt⟩ := ob bb
   have bP := U.f2
   refine lk b8S (a4s F bP.e1 W X aa ab bM af aC aK aX aj ac ak am hD dq) ?_
   rintro hz hA ⟨du, rfl, dv, dw⟩
   have dx := (bP.c1 dv).t3
   refine av rfl (nq (i9 (d8 (c9 ?_))))
   cases oi dt
   exact ey results77 ⟨du, rfl, dx.s, dw⟩
  refine sr (lv (u3 rfl rfl) (av rfl (nq (B5 bb rfl (fun dy bc => ?_) (fun dy bc => ?_)))))
  ·refine sr (lv (L3 rfl) (ns (k8 ?_)))
   have bd := U.drew
   refine j_0 (fun w' => E7 K w' ∧ y7 J [V6 q1.Kind, sv q1.Field, V3 O R S, V6 q1.From, V6 q1.To, V3 G H I] w') 8 [] mixed ⟨bd.hasK kr, bd.hasObj m1⟩ (jv 0 rfl (d6 rfl) (jv 1 rfl (v8 rfl) (jv 2 rfl (b8 a3j rfl) (jv 3 rfl (b8 Q1 rfl) (jh 4 rfl (fun _ h => y2 D9 rfl rfl h.2) (jv 7 rfl (r_m rfl) (j1 5 rfl ?_)))))))
   obtain ⟨dz, dA, dB⟩ := ob bc
   have bQ := bd.f2
   refine lk b7o (W9 F bQ.e1 W X aa ab af dA) ?_
   rintro hB hC ⟨dC, dD, dE, be, rfl, ar, aL⟩
   have bf := (bQ.c1 ar).t4
   refine W2 ⟨bf.hasK ar.le, bf.hasObj m3⟩ (jv 6 rfl (k9 underlying23 rfl aL) (jd (j6 ?_)))
   obtain ⟨bR, dF, dG⟩ := ob dB
   refine j4 (IW w K (List.flatMap B6.gs [q8 g1 [V3 a b c, V3 d f i, V3 k l m, V3 o q s] 123]) be [(0, pt g1), (7, V6 bR)] [q8 g1 [V3 a b c, V3 d f i, V3 k l m, V3 o q s] 123] (d9 bR)) ?_ ?_
   ·refine i5 ?_
    obtain ⟨hE, dH, dI⟩ := ob dF
    have dJ := bf.f2.f3.f3.sb (sk (sk (sk (sd sz))))
    refine qF (fun (bS : Nat) (aM : Int) => IW w K (List.flatMap B6.gs [q8 g1 [V3 a b c, V3 d f i, V3 k l m, V3 o q s] 123]) be [(0, pt g1), (4, pt J), (5, pt T), (7, V6 aM), (51, V3 dC dD dE), (52, V6 (dz.length : Int)), (53, V6 ((bS : Nat) : Int))] [q8 g1 [V3 a b c, V3 d f i, V3 k l m, V3 o q s] 123, q8 J [V6 q1.Kind, sv q1.Field, V3 O R S, V6 q1.From, V6 q1.To, V3 G H I] 42, q8 T [V6 q2.Id, V3 x y A, V3 B C D] 54] (d9 aM)) dH ⟨be, rfl, dJ, kr, I0⟩ ?_ ?_
    ·rintro bS aM _ dK hF hi137 dL ⟨bT, rfl, au, ad, aN⟩
     refine sr (lv (n8 rfl rfl) (ns (A3 rfl (c7 (by omega)) (i6 (j6 (k8 (i5 (sr ?_))))))))
     obtain ⟨dM, dN, dO⟩ := ob dL
     refine li underlying23 D9 (aL.mono ad) dN fun dP dQ hG dR dS => ?_
     obtain ⟨rfl, bU⟩ := dR
     have dT : D0 _ dP dQ [sv dM] := dS
     refine lv (u0 D9 rfl au (dT 0 _ rfl)) (av rfl (nr (mv rfl (fl V9 rfl O5 m1 au rfl ?_))))
     obtain ⟨dU, dV, dW⟩ := ob dO
     refine li underlying23 D9 (aC.mono (ar.le.trans ad)) dV fun dX dY hH dZ ea => ?_
     obtain ⟨rfl, eb⟩ := dZ
     have ec : D0 _ dX dY [sv dU] := ea
     refine lv (u0 D9 rfl au (ec 0 _ rfl)) ?_
     obtain ⟨hI, ed, ee⟩ := ob dW
     refine lk b8T (a71 F au.enter0 bU eb ed) ?_
     rintro hJ hK ⟨hL, rfl, aw, ef⟩
     have bg := (au.c0 aw).t3
     refine av rfl (nr (mv rfl (fl X6 rfl D8 m1 bg rfl ?_)))
     obtain ⟨hM, eg, eh⟩ := ob ee
     refine lk a2W (A7 F bg.enter0 ef I0 aK eg) ?_
     rintro hN hO ⟨ei, rfl, ax⟩
     have aF := (bg.c0 ax).t3
     refine nq (B5 eh rfl (fun ej bh => ?_) (fun ej bh => ?_))
     ·refine i7 (mv rfl (mv rfl (fl Q1 rfl D9 m1 aF rfl (mv rfl (fl X7 rfl D8 m2 aF rfl ?_)))))
      obtain ⟨hP, ek, el⟩ := ob bh
      refine lk b7Y (a0h F aF.e1 (b7.mono (((ar.le.trans ad).trans aw.le).trans ax.le) W) (b7.mono (((ar.le.trans ad).trans aw.le).trans ax.le) X) (b7.mono (((ar.le.trans ad).trans aw.le).trans ax.le) aa) (b7.mono (((ar.le.trans ad).trans aw.le).trans ax.le) ab) af bU ac ek) ?_
      rintro hQ hR ⟨em, rfl, bV, hT⟩
      have en := (aF.c1 bV).t3
      refine mv rfl (lv (F2 rfl rfl) (lv (I9 rfl rfl) ?_))
      obtain ⟨hU, bW, eo⟩ := ob el
      refine lv (a2d rfl rfl bW) (lv (b3Q rfl rfl) (av rfl (nb (qg (lv (y3 rfl rfl (A0 hi137 (b7.max aL))) (mv rfl (d7 ?_)))))))
      cases oi eo
      exact qd ⟨em, rfl, en, (((ad.trans aw.le).trans ax.le).trans bV.le), (b3K aN (a1V bW))⟩
     refine i6 (o0 (qg (lv (y3 rfl rfl (A0 hi137 (b7.max aL))) (mv rfl (d7 ?_)))))
     cases oi bh
     exact qd ⟨ei, rfl, aF, ((ad.trans aw.le).trans ax.le), aN⟩
    rintro aM _ dK ep ⟨bT, rfl, au, ad, aN⟩
    subst ep
    refine sr (lv (n8 rfl rfl) (ns (A2 rfl (c6 (by omega)) (q7 (d4 (d4 (j5 ?_)))))))
    cases oi dI
    exact qd ⟨bT, rfl, au.s, ad, aN⟩
   rintro _ hV ⟨eq, rfl, es, hW, et⟩
   refine qr (mv rfl (av rfl (nq (i9 (d8 (c9 ?_))))))
   cases oi dG
   exact ey results77 ⟨eq, rfl, es, et⟩
  refine sr (lv (u3 rfl rfl) (av rfl (nq (B5 bc rfl (fun eu bi => ?_) (fun eu bi => ?_)))))
  ·refine k8 (k8 ?_)
   have bj := U.drew
   refine j_0 (fun w' => E7 K w' ∧ y7 J [V6 q1.Kind, sv q1.Field, V3 O R S, V6 q1.From, V6 q1.To, V3 G H I] w') 8 [] mixed ⟨bj.hasK kr, bj.hasObj m1⟩ (jv 0 rfl (d6 rfl) (jv 1 rfl (v8 rfl) (jv 2 rfl (b8 a3j rfl) (jv 3 rfl (b8 Q1 rfl) (jh 4 rfl (fun _ h => y2 D9 rfl rfl h.2) (jv 7 rfl (r_m rfl) (j1 5 rfl ?_)))))))
   obtain ⟨bX, ev, ew⟩ := ob bi
   have bY := bj.f2
   refine lk b7o (W9 F bY.e1 W X aa ab af ev) ?_
   rintro hX hY ⟨bZ, ca, cb, bk, rfl, ay, bl⟩
   have bm := (bY.c1 ay).t4
   refine W2 ⟨bm.hasK ay.le, bm.hasObj m3⟩ (jv 6 rfl (k9 underlying23 rfl bl) (jd (j6 ?_)))
   obtain ⟨ex, eA, aO⟩ := ob ew
   refine j4 (IE ex w K (List.flatMap B6.gs [q8 g1 [V3 a b c, V3 d f i, V3 k l m, V3 o q s] 123]) bk [(0, pt g1)] [q8 g1 [V3 a b c, V3 d f i, V3 k l m, V3 o q s] 123]) ?_ ?_
   ·refine i5 ?_
    obtain ⟨hZ, eB, cc⟩ := ob eA
    have eC := bm.f2.f3.f3.sb (sk (sk (sk (sd sz))))
    refine qf (fun (bn : Nat) (cd : Unit) => IV w K (List.flatMap B6.gs [q8 g1 [V3 a b c, V3 d f i, V3 k l m, V3 o q s] 123]) bk [(0, pt g1), (4, pt J), (5, pt T), (89, V3 bZ ca cb), (90, V6 (bX.length : Int)), (91, V6 ((bn : Nat) : Int))] [q8 g1 [V3 a b c, V3 d f i, V3 k l m, V3 o q s] 123, q8 J [V6 q1.Kind, sv q1.Field, V3 O R S, V6 q1.From, V6 q1.To, V3 G H I] 42, q8 T [V6 q2.Id, V3 x y A, V3 B C D] 54]) eB ⟨bk, rfl, eC, kr⟩ ?_ ?_
    ·rintro bn cd _ eD ia hi232 eE eF ⟨bo, rfl, az, ag⟩
     refine sr (lv (n8 rfl rfl) (ns (A3 rfl (c7 (by omega)) (i6 (j6 (k8 (i5 (sr ?_))))))))
     obtain ⟨ce, eG, eH⟩ := ob eE
     refine li underlying23 D9 (bl.mono ag) eG fun eI eJ ib eK eL => ?_
     obtain ⟨rfl, cf⟩ := eK
     have eM : D0 _ eI eJ [sv ce] := eL
     refine lv (u0 D9 rfl az (eM 0 _ rfl)) (av rfl (ns ?_))
     obtain ⟨eN, eO, eP⟩ := ob eH
     refine j4 (IV w K (List.flatMap B6.gs [q8 g1 [V3 a b c, V3 d f i, V3 k l m, V3 o q s] 123]) bo [(0, pt g1), (4, pt J), (5, pt T), (89, V3 bZ ca cb), (90, V6 (bX.length : Int)), (91, V6 ((bn : Nat) : Int)), (111, .bool eN)] [q8 g1 [V3 a b c, V3 d f i, V3 k l m, V3 o q s] 123, q8 J [V6 q1.Kind, sv q1.Field, V3 O R S, V6 q1.From, V6 q1.To, V3 G H I] 42, q8 T [V6 q2.Id, V3 x y A, V3 B C D] 54]) ?_ ?_
     ·refine i7 (fl V9 rfl O5 m1 az rfl ?_)
      obtain ⟨eQ, eR, eS⟩ := ob eO
      refine li underlying23 D9 (aC.mono (ay.le.trans ag)) eR fun eT eU ic eV eW => ?_
      obtain ⟨rfl, eX⟩ := eV
      have eY : D0 _ eT eU [sv eQ] := eW
      refine lv (u0 D9 rfl az (eY 0 _ rfl)) (mv rfl ?_)
      obtain ⟨ie, eZ, fb⟩ := ob eS
      refine lk b8U (a7Z F az.enter0 eX cf eZ) ?_
      rintro ig ii ⟨fc, rfl, aA⟩
      have aG := (az.c0 aA).t3
      refine mv rfl (bt fb (fun V bp => ?_) (fun V bp => ?_))
      ·refine lg V (d6 rfl) (lg V (b8 Q1 rfl) (lg V (l8 D9 rfl m1 aG rfl) (lg V (d6 rfl) (lg V (b8 X7 rfl) (lg V (l8 D8 rfl m2 aG rfl) ?_)))))
       obtain ⟨ij, fd, fe⟩ := ob bp
       refine x9 (wg rfl rfl V) rfl (x8 (vs := [pt g1, sv q1.Field, sv ce, V6 q2.Id]) b5n rfl) (a0g F aG.e1 (W.mono ((ay.le.trans ag).trans aA.le)) (X.mono ((ay.le.trans ag).trans aA.le)) (aa.mono ((ay.le.trans ag).trans aA.le)) (ab.mono ((ay.le.trans ag).trans aA.le)) af cf ac fd) ?_
       rintro ik il ⟨im, io, ip, fg, rfl, cg, fh⟩
       refine ⟨_, rfl, ?_⟩
       have fi := (aG.c1 cg).t3
       refine lg V (k9 underlying55 rfl fh) (lg V (E5 rfl rfl) (lv (j3 rfl V rfl) (d7 ?_)))
       cases oi fe
       exact qd ⟨fg, rfl, fi, (aA.le.trans cg.le)⟩
      iterate 9 refine lu V ?_
      refine lv (F7 rfl V rfl) (d7 ?_)
      cases oi bp
      exact qd ⟨fc, rfl, aG, aA.le⟩
     rintro _ iq ⟨ch, rfl, cj, fj⟩
     refine j6 (B5 eP rfl (fun fk bq => ?_) (fun fk bq => ?_))
     ·refine sr (lv (r9 (v := V6 100) rfl) (nq (i9 (d8 (c9 (c9 ?_))))))
      cases oi bq
      cases eF _ rfl
      refine d8 (c9 ?_)
      cases oi cc
      refine c9 (d8 (c9 ?_))
      cases oi aO
      exact ey results77 ⟨ch, rfl, cj.s, (by decide : d9 100)⟩
     refine i6 (o0 (qg (lv (y3 rfl rfl (A0 hi232 (b7.max bl))) (mv rfl (d7 ?_)))))
     cases oi bq
     exact qd ⟨_, rfl, ch, rfl, cj, (ag.trans fj)⟩
    rintro cd _ eD fm ⟨bo, rfl, az, ag⟩
    subst fm
    refine sr (lv (n8 rfl rfl) (ns (A2 rfl (c6 (by omega)) (q7 (d4 (d4 (j5 ?_)))))))
    cases oi cc
    exact qd ⟨_, bo, rfl, rfl, az.s, ag⟩
   rintro _ ir ⟨it, fn, rfl, rfl, fo, iu⟩
   have aO := C8 aO
   refine qr (lv (L3 rfl) (nq (i9 (d8 (c9 ?_)))))
   cases oi aO
   exact ey results77 ⟨fn, rfl, fo, I0⟩
  refine sr (lv (u3 rfl rfl) (av rfl (nq (B5 bi rfl (fun fp br => ?_) (fun fp br => ?_)))))
  ·refine k8 (k8 (C2 mixed (by kernel_rfl) U (kh (R0 (ds := [V6 q2.Id, V3 x y A, V3 B C D]) C0 rfl m0 rfl rfl) (kv (b8 Q1 rfl) (kh (u2 D9 rfl m1 rfl) ?_)))))
   obtain ⟨iv, ck, fq⟩ := ob br
   refine kd b8V (fun _ _ fr cl => (a4P F) fr.enter0 ac (ak.mono cl) (am.mono cl) af ck) ?_
   obtain ⟨_, _, _, ⟨_, _, _, fs⟩, _⟩ := (a4P F) U.enter0 ac ak am af ck []
   refine kv (b8 X6 rfl) (kh (u2 D8 rfl m1 rfl) (kv (b8 a14 rfl) (kh (u2 D8 rfl m1 rfl) ?_)))
   obtain ⟨iw, ft, fu⟩ := ob fq
   refine kc a2W (fun _ _ fv ix => (A7 F) fv.enter0 fs aK aX ft) (z7 ?_)
   rintro iy ⟨cm, cn, iz⟩
   refine j6 (B5 fu rfl (fun fw bs => ?_) (fun fw bs => ?_))
   ·refine sr (lv (r9 (v := V6 100) rfl) (nq (rr (d8 (c9 ?_)))))
    cases oi bs
    exact ey results77 ⟨cm, rfl, cn.s, (by decide : d9 100)⟩
   refine i6 (qr (lv (L3 rfl) (nq (i9 (d8 (c9 ?_))))))
   cases oi bs
   exact ey results77 ⟨cm, rfl, cn.s, I0⟩
  refine sr (lv (u3 rfl rfl) (av rfl (nq (B5 br rfl (fun fx bu => ?_) (fun fx bu => ?_)))))
  ·refine k8 ?_
   have aP := U.drew
   refine wh1 (fun w' => E7 K w' ∧ y7 J [V6 q1.Kind, sv q1.Field, V3 O R S, V6 q1.From, V6 q1.To, V3 G H I] w' ∧ y7 T [V6 q2.Id, V3 x y A, V3 B C D] w') (fun w' => True) 11 [] mixed ⟨aP.hasK kr, aP.hasObj m1, aP.hasObj m0⟩ (fun _ => trivial) (gt (b8 X6 rfl) (gh (fun _ h => y2 D8 rfl rfl h.2.1) (gt (d6 rfl) (gt (b8 Q2 rfl) (gh (fun _ h => y2 a2P rfl rfl h.2.1) ?_)))))
   obtain ⟨an, fy, fz⟩ := ob bu
   refine gi underlying40 C3 aj fy fun fA fB iA fC fD => ?_
   obtain ⟨cp, cq, cr, ct, cu, cv, rfl, fE, fF, fG, fH, fI, fJ⟩ := L4 fC
   have fK : D0 _ fA fB [V6 an.Kind, sv an.Field, V3 cp cq cr, V6 an.From, V6 an.To, V3 ct cu cv] := fD
   refine gh (fun _ h => a3U (cs := [V6 an.Kind, sv an.Field, V3 cp cq cr, V6 an.From, V6 an.To, V3 ct cu cv]) C3 rfl fK rfl h.1) (gh (fun _ h => B2 (ds := [V6 q2.Id, V3 x y A, V3 B C D]) C0 rfl rfl rfl h.2.2) (gn ?_))
   obtain ⟨iB, fL, fM⟩ := ob fz
   have cw := aP.f2
   refine lk b5t (ih cw.e1 W X aa ab fE fF fG fH fI fJ ac ak am hD fL) ?_
   rintro iC iD ⟨fN, rfl, cx, iE⟩
   have aQ := (cw.c1 cx).t3
   refine d7 (qh ⟨aQ.hasK cx.le, aQ.hasObj m2, aQ.hasObj m1⟩ (fun _ => trivial) (gt (I9 rfl rfl) (gt (r9 rfl) (gd' (j6 (i9 (d8 (c9 ?_))))))))
   cases oi fM
   exact ey results77 ⟨fN, rfl, aQ.s, (l9 _)⟩
  refine sr (lv (u3 rfl rfl) (av rfl (nq (B5 bu rfl (fun fO bv => ?_) (fun fO bv => ?_)))))
  ·refine k8 (k8 ?_)
   have aR := U.drew
   refine wh1 (fun w' => E7 K w' ∧ y7 J [V6 q1.Kind, sv q1.Field, V3 O R S, V6 q1.From, V6 q1.To, V3 G H I] w' ∧ y7 T [V6 q2.Id, V3 x y A, V3 B C D] w') (fun w' => True) 8 [] mixed ⟨aR.hasK kr, aR.hasObj m1, aR.hasObj m0⟩ (fun _ => trivial) (gt (d6 rfl) (gt (b8 Q2 rfl) (gh (fun _ h => y2 a2P rfl rfl h.2.1) ?_)))
   obtain ⟨ao, fP, fQ⟩ := ob bv
   refine gi underlying40 C3 aj fP fun fR fS iF fT fU => ?_
   obtain ⟨cy, cz, cA, cB, cC, cD, rfl, fV, fW, fX, fY, fZ, ga⟩ := L4 fT
   have gb : D0 _ fR fS [V6 ao.Kind, sv ao.Field, V3 cy cz cA, V6 ao.From, V6 ao.To, V3 cB cC cD] := fU
   refine gh (fun _ h => a3U (cs := [V6 ao.Kind, sv ao.Field, V3 cy cz cA, V6 ao.From, V6 ao.To, V3 cB cC cD]) C3 rfl gb rfl h.1) (gh (fun _ h => B2 (ds := [V6 q2.Id, V3 x y A, V3 B C D]) C0 rfl rfl rfl h.2.2) (gn ?_))
   obtain ⟨iG, gc, gd⟩ := ob fQ
   have cE := aR.f2
   refine lk b5t (ih cE.e1 W X aa ab fV fW fX fY fZ ga ac ak am hD gc) ?_
   rintro iH iI ⟨cF, rfl, ah, iJ⟩
   have aH := (cE.c1 ah).t3
   refine d7 (qh ⟨aH.hasK ah.le, aH.hasObj m2, aH.hasObj m1⟩ (fun _ => trivial) (gt (E5 rfl rfl) (gd' (j6 (B5 gd rfl (fun ge bz => ?_) (fun ge bz => ?_))))))
   ·refine sr (lv (L3 rfl) (nq (rr (d8 (c9 ?_)))))
    cases oi bz
    exact ey results77 ⟨cF, rfl, aH.s, I0⟩
   refine i6 (qs ?_)
   have aI := aH.drew
   refine wh1 (fun w' => E7 cF w' ∧ y7 J [V6 q1.Kind, sv q1.Field, V3 O R S, V6 q1.From, V6 q1.To, V3 G H I] w' ∧ y7 T [V6 q2.Id, V3 x y A, V3 B C D] w') (fun w' => True) 8 [] mixed ⟨aI.hasK kr, aI.hasObj m2, aI.hasObj m1⟩ (fun _ => trivial) (gt (d6 rfl) (gt (b8 Q2 rfl) (gh (fun _ h => y2 a2P rfl rfl h.2.1) ?_)))
   obtain ⟨ap, gg, gj⟩ := ob bz
   refine gi underlying40 C3 (aj.mono ah.le) gg fun gk gl iK gm go => ?_
   obtain ⟨cG, cH, cI, cJ, cK, cL, rfl, gp, gq, gr, gv, gw, gx⟩ := L4 gm
   have gy : D0 _ gk gl [V6 ap.Kind, sv ap.Field, V3 cG cH cI, V6 ap.From, V6 ap.To, V3 cJ cK cL] := go
   refine gh (fun _ h => a3U (cs := [V6 ap.Kind, sv ap.Field, V3 cG cH cI, V6 ap.From, V6 ap.To, V3 cJ cK cL]) C3 rfl gy rfl h.1) (gh (fun _ h => B2 (ds := [V6 q2.Id, V3 x y A, V3 B C D]) C0 rfl rfl rfl h.2.2) (gn ?_))
   obtain ⟨iL, gz, gA⟩ := ob gj
   refine lk b5t (ih aI.e1 (W.mono ah.le) (X.mono ah.le) (aa.mono ah.le) (ab.mono ah.le) gp gq gr gv gw gx ac (ak.mono ah.le) (am.mono ah.le) hD gz) ?_
   rintro iM iN ⟨gB, rfl, cM, gC⟩
   have aS := (aI.c1 cM).t3
   refine d7 (qh ⟨aS.hasK cM.le, aS.hasObj m2, aS.hasObj m1⟩ (fun _ => trivial) (gt (r9 rfl) (gd' (j6 (i9 (d8 (c9 ?_)))))))
   cases oi gA
   exact ey results77 ⟨gB, rfl, aS.s, gC⟩
  refine i6 (o0 (qr (lv (L3 rfl) (P6 (fl Q2 rfl a2P m1 U rfl (lv (k9 underlying40 rfl aj) (lv (r_m rfl) (nq ?_))))))))
  obtain ⟨gD, gE, aT⟩ := ob bv
  refine j4 (fun E' w' => ∃ aU aV, gD = .inl aU ∧ E' = [(0, pt g1), (13, V6 aU)] ∧ SH w K (List.flatMap B6.gs [q8 g1 [V3 a b c, V3 d f i, V3 k l m, V3 o q s] 123]) w' aV [q8 g1 [V3 a b c, V3 d f i, V3 k l m, V3 o q s] 123] ∧ H6 K aV ∧ d9 aU) ?_ ?_
  ·refine i5 ?_
   obtain ⟨iO, gF, cN⟩ := ob gE
   refine qf (fun (bA : Nat) (aJ : Int) => IW w K (List.flatMap B6.gs [q8 g1 [V3 a b c, V3 d f i, V3 k l m, V3 o q s] 123]) K [(0, pt g1), (4, pt J), (5, pt T), (13, V6 aJ), (154, V3 G H I), (155, V6 (q1.Kids.length : Int)), (156, V6 ((bA : Nat) : Int))] [q8 g1 [V3 a b c, V3 d f i, V3 k l m, V3 o q s] 123, q8 J [V6 q1.Kind, sv q1.Field, V3 O R S, V6 q1.From, V6 q1.To, V3 G H I] 42, q8 T [V6 q2.Id, V3 x y A, V3 B C D] 54] (d9 aJ)) gF ⟨K, rfl, U.f1.f2, kr, I0⟩ ?_ ?_
   ·rintro bA aJ _ gG iP hi446 gH gI ⟨cO, rfl, aW, ae, cP⟩
    refine sr (lv (n8 rfl rfl) (ns (A3 rfl (c7 (by omega)) (i6 (j6 (k8 (i5 (sr ?_))))))))
    obtain ⟨Y, gJ, gK⟩ := ob gH
    refine li underlying40 C3 (aj.mono ae) gJ fun gL gM iQ gN gO => ?_
    obtain ⟨bB, bC, bD, bE, bF, bG, rfl, gP, gQ, gR, gS, gT, gU⟩ := L4 gN
    have gV : D0 _ gL gM [V6 Y.Kind, sv Y.Field, V3 bB bC bD, V6 Y.From, V6 Y.To, V3 bE bF bG] := gO
    refine lv (D4 C3 rfl aW gV rfl) (al C3 aW fun gW iR gX => ?_)
    have gY : SH _ _ _ _ _ [q8 gW [V6 0, sv [], V3 none 0 0, V6 0, V6 0, V3 none 0 0] 42, _, _, _] := gX
    refine lw [V6 Y.Kind, sv Y.Field, V3 bB bC bD, V6 Y.From, V6 Y.To, V3 bE bF bG] C3 gY fun iS bH => (nr (mv rfl (lv (l3 (ds := [V6 Y.Kind, sv Y.Field, V3 bB bC bD, V6 Y.From, V6 Y.To, V3 bE bF bG]) C3 rfl m0 bH rfl rfl) (lv (l3 (ds := [V6 q2.Id, V3 x y A, V3 B C D]) C0 rfl m3 bH rfl rfl) ?_))))
    obtain ⟨gZ, hb, hc⟩ := ob gK
    have cQ := bH.f1
    refine lk b5t (ih cQ.e1 (W.mono ae) (X.mono ae) (aa.mono ae) (ab.mono ae) gP gQ gR gS gT gU ac (ak.mono ae) (am.mono ae) hD hb) ?_
    rintro iT iU ⟨bI, rfl, cR, iV⟩
    have bJ := (cQ.c1 cR).t4
    refine av rfl (ns (k8 ?_))
    obtain ⟨hd, he, hf⟩ := ob hc
    refine j4 (IV w K (List.flatMap B6.gs [q8 g1 [V3 a b c, V3 d f i, V3 k l m, V3 o q s] 123]) bI [(0, pt g1), (4, pt J), (5, pt T), (13, V6 aJ), (16, V6 gZ), (154, V3 G H I), (155, V6 (q1.Kids.length : Int)), (156, V6 ((bA : Nat) : Int)), (170, .bool hd)] [q8 g1 [V3 a b c, V3 d f i, V3 k l m, V3 o q s] 123, q8 J [V6 q1.Kind, sv q1.Field, V3 O R S, V6 q1.From, V6 q1.To, V3 G H I] 42, q8 T [V6 q2.Id, V3 x y A, V3 B C D] 54]) ?_ ?_
    ·refine i7 (mv rfl (lv (u3 rfl rfl) (mv rfl (bt he (fun ai bK => ?_) (fun ai bK => ?_)))))
     ·refine lg ai (b8 a34 rfl) (lg ai (l8 D8 rfl m2 bJ rfl) (lg ai (u3 rfl rfl) (lv (j3 rfl ai rfl) (d7 ?_))))
      cases oi bK
      exact qd ⟨bI, rfl, bJ.s, kr⟩
     refine lu ai (lu ai (lu ai (lv (F7 rfl ai rfl) (d7 ?_))))
     cases oi bK
     exact qd ⟨bI, rfl, bJ.s, kr⟩
    rintro _ iW ⟨cS, rfl, cT, hg⟩
    refine j6 (B5 hf rfl (fun hh bL => ?_) (fun hh bL => ?_))
    ·refine sr (lv (L3 rfl) (nq (rr (d8 (c9 (c9 ?_))))))
     cases oi bL
     cases gI _ rfl
     refine d8 (c9 ?_)
     cases oi cN
     refine c9 ?_
     cases oi aT
     exact ey results77 ⟨cS, rfl, cT.s, I0⟩
    refine i6 (j6 (i7 (mv rfl (mv rfl (lv (s6 rfl rfl) (av rfl (nb (qg (lv (y3 rfl rfl (A0 hi446 (b7.max aj))) ?_)))))))))
    refine mv rfl (d7 ?_)
    cases oi bL
    exact qd ⟨_, rfl, cS, rfl, cT, ((ae.trans cR.le).trans hg), (l9 _)⟩
   rintro aJ _ gG hi ⟨cO, rfl, aW, ae, cP⟩
   subst hi
   refine sr (lv (n8 rfl rfl) (ns (A2 rfl (c6 (by omega)) (q7 (d4 (d4 (j5 ?_)))))))
   cases oi cN
   exact qd ⟨_, cO, rfl, rfl, aW.s, ae, cP⟩
  rintro _ iX ⟨aU, aV, rfl, rfl, hj, iY, hk⟩
  have aT := C8 aT
  refine qr (mv rfl (av rfl (nq (i9 ?_))))
  cases oi aT
  exact ey results77 ⟨aV, rfl, hj, hk⟩

theorem a1t {q0 : q9} {q1 : z2} {q2 : r5} {q3 : Int} {r : Int} (hS : SH w K [] w K []) (an : b7 B8 K A a b q0.Stops) (ao : b7 I4 K B c d q0.Syns) (U : b7 E1 K C f i q1.Docs) (V : b7 z6 K D k l q1.Entries) (ap : d9 q2.Kind) (aq : q2.Field.length ≤ maxLen) (ar : b7 B8 K G m n q2.Words) (au : d9 q2.From) (aw : d9 q2.To) (ax : b7 E4 K H o p q2.Kids) (aB : d9 q3) (hG31 : a9O O3 1 q U1 w) (hD : ¬ dr.D) (hm : N9 F q0 q1 q2 q3 = some r) :
  Calls prog 31 #[.agg #[V3 A a b, V3 B c d], .agg #[V3 C f i, V3 D k l], .agg #[V6 q2.Kind, sv q2.Field, V3 G m n, V6 q2.From, V6 q2.To, V3 H o p], V6 q3] w (R_i w K r) := by
 rw [N9] at hm
 refine ci func31 rfl ntmps31 (sr (bx rfl hS fun W bj aC => ?_))
 have aD : SH _ _ _ _ _ [q8 W [V3 A a b, V3 B c d] 26] := aC
 refine bx rfl aD fun X bk aE => ?_
 have aF : SH _ _ _ _ _ [q8 X [V3 C f i, V3 D k l] 46, _] := aE
 refine bx rfl aF fun Y bl aG => ?_
 have aH : SH _ _ _ _ _ [q8 Y [V6 q2.Kind, sv q2.Field, V3 G m n, V6 q2.From, V6 q2.To, V3 H o p] 42, _, _] := aG
 refine lv (L3 rfl) (nr (mv rfl ?_))
 obtain ⟨aa, aI, aJ⟩ := ob hm
 have ay := aH.f1
 refine lk b9H (a74 F ay.e1 U V aB aI) ?_
 rintro bm bn ⟨ab, ac, ad, ae, af, ag, aK, rfl, s, aL, aM, aN⟩
 have aO := (ay.c1 s).t3
 refine mv rfl (lv (B3 rfl rfl) (lv (B3 rfl rfl) (al C0 aO fun ah bo aP => ?_)))
 have aQ : SH _ _ _ _ _ [q8 ah [V6 0, V3 none 0 0, V3 none 0 0] 54, _, _, _] := aP
 refine lw [V6 aa.1.Id, V3 ab ac ad, V3 ae af ag] C0 aQ fun bp R => (av rfl (ns (k8 ?_)))
 obtain ⟨aR, aS, aT⟩ := ob aJ
 refine j4 (IV w K [] aK [(4, pt W), (5, pt X), (6, pt Y), (9, pt ah), (29, .bool aR)] [q8 W [V3 A a b, V3 B c d] 26, q8 X [V3 C f i, V3 D k l] 46, q8 Y [V6 q2.Kind, sv q2.Field, V3 G m n, V6 q2.From, V6 q2.To, V3 H o p] 42, q8 ah [V6 aa.1.Id, V3 ab ac ad, V3 ae af ag] 54]) ?_ ?_
 ·refine i7 (lv (l3 (ds := [V3 A a b, V3 B c d]) E6 rfl m3 R rfl rfl) (lv (l3 (ds := [V3 C f i, V3 D k l]) G0 rfl m1 R rfl rfl) ?_))
  obtain ⟨bq, aU, aV⟩ := ob aS
  refine lk b9x (a5B F R.enter0 (an.mono s.le) (ao.mono s.le) (U.mono s.le) (V.mono s.le) aU) ?_
  rintro br bs ⟨aW, rfl, J⟩
  have O := (R.c0 J).t4
  refine lv (y4 rfl) (mv rfl (bt aV (fun x ai => ?_) (fun x ai => ?_)))
  ·refine lu x (lu x (lu x (lv (K5 rfl x rfl) (mv rfl (lu rfl (lu rfl (lv (K5 rfl rfl rfl) (d7 ?_))))))))
   cases oi ai
   exact qd ⟨aW, rfl, O.f2.f2.f3, J.le⟩
  refine lg x (l3 (ds := [V6 q2.Kind, sv q2.Field, V3 G m n, V6 q2.From, V6 q2.To, V3 H o p]) C3 rfl m2 O rfl rfl) ?_
  obtain ⟨bu, aX, aY⟩ := ob ai
  refine x9 (wg rfl rfl x) rfl (x8 (vs := [.agg #[V6 q2.Kind, sv q2.Field, V3 G m n, V6 q2.From, V6 q2.To, V3 H o p]]) b9E rfl) (a4h F O.enter0 ap aq (ar.mono (s.le.trans J.le)) au aw (ax.mono (s.le.trans J.le)) (hG31.keep O) aX) ?_
  rintro bv bz ⟨az, rfl, aj⟩
  refine ⟨_, rfl, ?_⟩
  have aA := (O.c0 aj).t4
  refine lg x (y4 rfl) (lv (j9 rfl x rfl) (mv rfl (bt aY (fun I ak => ?_) (fun I ak => ?_))))
  ·refine lu I (lu I (lv (K5 rfl I rfl) (d7 ?_)))
   cases oi ak
   exact qd ⟨az, rfl, aA.f2.f2.f3, (J.le.trans aj.le)⟩
  refine lg I (d6 rfl) (lg I (y4 rfl) (lv (j9 rfl I rfl) (d7 ?_)))
  cases oi ak
  exact qd ⟨az, rfl, aA.f2.f2.f3, (J.le.trans aj.le)⟩
 rintro _ bA ⟨aZ, rfl, S, y⟩
 refine j6 (B5 aT rfl (fun ba am => ?_) (fun ba am => ?_))
 ·refine sr (lv (L3 rfl) (nq (rr ?_)))
  cases oi am
  exact ey results31 ⟨aZ, rfl, S.s, I0⟩
 refine i6 (qr (lv (l3 (ds := [V3 A a b, V3 B c d]) E6 rfl m0 S rfl rfl) (lv (l3 (ds := [V3 C f i, V3 D k l]) G0 rfl m1 S rfl rfl) (lv (A5 (cs := #[V3 A a b, V3 B c d, V3 C f i, V3 D k l]) b9R b9U rfl (by kernel_rfl)) (bx rfl S fun bb bB bc => ?_)))))
 have T : SH _ _ _ _ _ [q8 bb [V3 A a b, V3 B c d, V3 C f i, V3 D k l] 123, _, _, _, _] := bc
 refine av rfl (nr (mv rfl (lv (l3 (ds := [V6 q2.Kind, sv q2.Field, V3 G m n, V6 q2.From, V6 q2.To, V3 H o p]) C3 rfl m3 T rfl rfl) (lv (l3 (ds := [V6 aa.1.Id, V3 ab ac ad, V3 ae af ag]) C0 rfl m4 T rfl rfl) ?_))))
 obtain ⟨bC, bd, be⟩ := ob am
 refine lk b5t ((a4S F (q0 := (N3.mk q0 q1))) T.e1 (an.mono (s.le.trans y)) (ao.mono (s.le.trans y)) (U.mono (s.le.trans y)) (V.mono (s.le.trans y)) ap aq (ar.mono (s.le.trans y)) au aw (ax.mono (s.le.trans y)) aL (aM.mono y) (aN.mono y) hD bd) ?_
 rintro bD bE ⟨bf, rfl, bg, bh⟩
 have bi := (T.c1 bg).t5
 refine av rfl (nq (i9 ?_))
 cases oi be
 exact ey results31 ⟨bf, rfl, bi.s, bh⟩
end Go.Proofs.YtmkhlppjphodfaaGreatDoor
