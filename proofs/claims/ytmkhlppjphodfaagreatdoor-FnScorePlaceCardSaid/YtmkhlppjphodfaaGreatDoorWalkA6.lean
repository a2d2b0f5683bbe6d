/-
 Walks of the functions. Printed by gen.py.
-/
import Derived.Test.YtmkhlppjphodfaaGreatDoorModelL
import Derived.Test.YtmkhlppjphodfaaGreatDoorWalkA2
import Derived.Test.YtmkhlppjphodfaaGreatDoorWalkA3
import Derived.Test.YtmkhlppjphodfaaGreatDoorWalkA4
import Derived.Test.YtmkhlppjphodfaaGreatDoorWalkA5
set_option linter.unusedVariables false
set_option linter.unusedSectionVars false
set_option maxRecDepth 100000
namespace Go.Proofs.YtmkhlppjphodfaaGreatDoor
set_option maxHeartbeats 4000000
open Go Go.Fk Go.RowKit Tryz
variable (F : Nat) {w : World} {K : C5} {Z : List Nat} {g1 g2 g3 : Nat} {A B C D G H I J O R S T : Option Addr} {a b c d f i k l m n o p q s v x y aa ab ac ad ae af ag : Nat}
variable [dr : Dr]

theorem b6o {q0 : List UInt8} {q1 : List UInt8} {r : Bool} (hS : SH w K [] w K []) (bu : b7 tU8 K A a b q0) (bv : b7 tU8 K B c d q1) (hG10 : a9O O3 1 f U1 w) (hD : ¬ dr.D) (hm : p7 F q0 q1 = some r) :
  Calls prog 4 #[V3 A a b, V3 B c d] w (R_b w K r) := by
 rw [p7] at hm
 refine ci func4 rfl ntmps4 (sr (lv (M7 rfl) (ns (k8 ?_))))
 obtain ⟨bW, bX, bY⟩ := ob hm
 refine j4 (IV w K [] K [(0, V3 A a b), (1, V3 B c d), (29, .bool bW)] []) ?_ ?_
 ·refine i7 (mv rfl (lv (k9 underlying22 rfl bu) (lv (E5 rfl rfl) (mv rfl (bt bX (fun aq aZ => ?_) (fun aq aZ => ?_))))))
  ·refine lu aq (lu aq (lu aq (lv (K5 rfl aq rfl) (d7 ?_))))
   cases oi aZ
   exact qd ⟨K, rfl, hS, kr⟩
  refine lg aq (d6 rfl) (lg aq (k9 underlying22 rfl bv) (lg aq (E5 rfl rfl) (lv (j9 rfl aq rfl) (d7 ?_))))
  cases oi aZ
  exact qd ⟨K, rfl, hS, kr⟩
 rintro _ eK ⟨bZ, rfl, ba, bx⟩
 refine j6 (B5 bY rfl (fun ca bb => ?_) (fun ca bb => ?_))
 ·refine sr (lv (r_t rfl) (nq (rr ?_)))
  cases oi bb
  exact ey results4 ⟨bZ, rfl, ba⟩
 refine i6 (qr (mv rfl ?_))
 obtain ⟨m, cb, cc⟩ := ob bb
 refine lk c1u (a7e F ba.enter0 (bu.mono bx) cb) ?_
 rintro eL eM ⟨x, y, C, D, G, H, U, V, W, X, Y, aa, eN, rfl, bz, ah, ag, an, au, aF, aP⟩
 have cd := (ba.c0 bz).t3
 refine mv rfl (lv (B3 rfl rfl) (lv (B3 rfl rfl) (lv (B3 rfl rfl) (lv (B3 rfl rfl) (al E6 cd fun ac eO ce => ?_)))))
 have cf : SH _ _ _ _ _ [q8 ac [V3 none 0 0, V3 none 0 0] 26, _, _, _] := ce
 refine al G0 cf fun ad eP cg => ?_
 have ch : SH _ _ _ _ _ [q8 ad [V3 none 0 0, V3 none 0 0] 46, _, _, _, _] := cg
 refine lw [V3 x y C, V3 D G H] E6 ch.f1 fun eQ cj => (lw [V3 U V W, V3 X Y aa] G0 cj.f1 fun eR bA => (av rfl (av rfl (nr (mv rfl ?_)))))
 obtain ⟨ab, ck, cl⟩ := ob cc
 refine lk c1u (a7e F bA.enter0 (bv.mono (bx.trans bz.le)) ck) ?_
 rintro eS eT ⟨cm, cn, cp, cq, cr, ct, cu, cv, cw, cx, cy, cz, cA, rfl, k, eU, eV, eW, eX, eY, aQ⟩
 have cB := (bA.c0 k).t8
 refine mv rfl (lv (B3 rfl rfl) (lv (B3 rfl rfl) (lv (B3 rfl rfl) (lv (B3 rfl rfl) (al E6 cB fun cC eZ cD => ?_)))))
 have cE : SH _ _ _ _ _ [q8 cC [V3 none 0 0, V3 none 0 0] 26, _, _, _, _, _, _, _, _] := cD
 refine al G0 cE fun cF fb cG => ?_
 have cH : SH _ _ _ _ _ [q8 cF [V3 none 0 0, V3 none 0 0] 46, _, _, _, _, _, _, _, _, _] := cG
 refine lw [V3 cm cn cp, V3 cq cr ct] E6 cH.f1 fun fc cI => (lw [V3 cu cv cw, V3 cx cy cz] G0 cI.f1 fun fd aR => (av rfl (av rfl (ns (k8 ?_)))))
 obtain ⟨cJ, cK, cL⟩ := ob cl
 refine j4 (IV w K [] cA [(5, pt ac), (6, pt ad), (7, sv m.2.2.1), (8, sv m.2.2.2), (12, sv ab.2.2.2), (65, .bool cJ)] [q8 ac [V3 x y C, V3 D G H] 26, q8 ad [V3 U V W, V3 X Y aa] 46]) ?_ ?_
 ·refine i7 (lv (l3 (ds := [V3 x y C, V3 D G H]) E6 rfl m6 aR rfl rfl) (lv (l3 (ds := [V3 U V W, V3 X Y aa]) G0 rfl m5 aR rfl rfl) ?_))
  obtain ⟨fe, cM, cN⟩ := ob cK
  refine lk b9x (a5B F aR.enter0 (ah.mono k.le) (ag.mono k.le) (an.mono k.le) (au.mono k.le) cM) ?_
  rintro fg fh ⟨bB, rfl, ao⟩
  have aB := (aR.c0 ao).t10
  refine lv (y4 rfl) (mv rfl (bt cN (fun ai bc => ?_) (fun ai bc => ?_)))
  ·refine lu ai (lu ai (lu ai (lu ai (lv (K5 rfl ai rfl) (mv rfl (lu rfl (lu rfl (lu rfl (lu rfl ?_)))))))))
   refine lv (K5 rfl rfl rfl) (mv rfl (lu rfl (lu rfl (lu rfl (lu rfl (lv (K5 rfl rfl rfl) (d7 ?_)))))))
   cases oi bc
   exact qd ⟨bB, rfl, aB.f5.f6.s, ao.le⟩
  refine lg ai (b8 a1x rfl) (lg ai (l8 a5V rfl m6 aB rfl) (lg ai (k9 underlying24 rfl (ag.mono (k.le.trans ao.le))) (lg ai (E5 rfl rfl) (lv (j9 rfl ai rfl) (mv rfl (bt bc (fun aj bd => ?_) (fun aj bd => ?_)))))))
  ·refine lu aj (lu aj (lu aj (lu aj (lv (K5 rfl aj rfl) (mv rfl (lu rfl (lu rfl (lu rfl (lu rfl ?_)))))))))
   refine lv (K5 rfl rfl rfl) (d7 ?_)
   cases oi bd
   exact qd ⟨bB, rfl, aB.f5.f6.s, ao.le⟩
  refine lg aj (l3 (ds := [V3 x y C, V3 D G H]) E6 rfl m6 aB rfl rfl) (lg aj (d6 rfl) ?_)
  obtain ⟨fi, cO, cP⟩ := ob bd
  refine x9 (wg rfl rfl aj) rfl (x8 (vs := [.agg #[V3 x y C, V3 D G H], sv m.2.2.2]) b9Y rfl) (a88 F aB.enter0 (ah.mono (k.le.trans ao.le)) (ag.mono (k.le.trans ao.le)) aP cO) ?_
  rintro fj fk ⟨cQ, rfl, aG, fm⟩
  refine ⟨_, rfl, ?_⟩
  have aS := (aB.c0 aG).t10
  refine lg aj (H0 (r := ([] : k6)) rfl rfl) (lv (j9 rfl aj rfl) (mv rfl (bt cP (fun ak be => ?_) (fun ak be => ?_))))
  ·refine lu ak (lu ak (lu ak (lu ak (lv (K5 rfl ak rfl) (d7 ?_)))))
   cases oi be
   exact qd ⟨cQ, rfl, aS.f5.f6.s, (ao.le.trans aG.le)⟩
  refine lg ak (l3 (ds := [V3 x y C, V3 D G H]) E6 rfl m6 aS rfl rfl) (lg ak (d6 rfl) ?_)
  obtain ⟨fn, cR, cS⟩ := ob be
  refine x9 (wg rfl rfl ak) rfl (x8 (vs := [.agg #[V3 x y C, V3 D G H], sv ab.2.2.2]) b9Y rfl) (a88 F aS.enter0 (ah.mono ((k.le.trans ao.le).trans aG.le)) (ag.mono ((k.le.trans ao.le).trans aG.le)) aQ cR) ?_
  rintro fo fp ⟨cT, rfl, bC, fq⟩
  refine ⟨_, rfl, ?_⟩
  have cU := (aS.c0 bC).t10
  refine lg ak (H0 (r := ([] : k6)) rfl rfl) (lv (j9 rfl ak rfl) (d7 ?_))
  cases oi cS
  exact qd ⟨cT, rfl, cU.f5.f6.s, ((ao.le.trans aG.le).trans bC.le)⟩
 rintro _ fr ⟨fs, rfl, bD, l⟩
 refine j6 (B5 cL rfl (fun cV bf => ?_) (fun cV bf => ?_))
 ·refine k8 (C2 mixed (by kernel_rfl) bD (kh (R0 (ds := [V3 x y C, V3 D G H]) E6 rfl m0 rfl rfl) (kh (R0 (ds := [V3 U V W, V3 X Y aa]) G0 rfl m1 rfl rfl) ?_)))
  obtain ⟨ft, cW, cX⟩ := ob bf
  refine kc b9x (fun _ _ cY aT => (a5B F) cY.enter0 (ah.mono ((k.le.trans l).trans aT)) (ag.mono ((k.le.trans l).trans aT)) (an.mono ((k.le.trans l).trans aT)) (au.mono ((k.le.trans l).trans aT)) cW) (kh (R0 (ds := [V3 x y C, V3 D G H]) E6 rfl m0 rfl rfl) (kh (R0 (ds := [V3 U V W, V3 X Y aa]) G0 rfl m1 rfl rfl) ?_))
  obtain ⟨fu, cZ, da⟩ := ob cX
  refine kc c1C (fun _ _ db aU => (c0D F) db.enter0 (ah.mono ((k.le.trans l).trans aU)) (ag.mono ((k.le.trans l).trans aU)) (an.mono ((k.le.trans l).trans aU)) (au.mono ((k.le.trans l).trans aU)) cZ) (kv (c02 underlying4 rfl rfl) (kv (r9 rfl) (z7 ?_)))
  rintro fv ⟨dc, dd, fw⟩
  refine j6 (rr ?_)
  cases oi da
  exact ey results4 ⟨dc, rfl, dd.s⟩
 refine i6 (qr (mv rfl (mv rfl (mv rfl (J1 (t := B8) (n := 2) (pv := [(0, sv m.2.2.2), (1, sv ab.2.2.2)]) (cs := [sv m.2.2.2, sv ab.2.2.2]) (xs := [m.2.2.2, ab.2.2.2]) wn rfl underlying23 D9 rfl rfl rfl (by kernel_rfl) rfl rfl (M1 (u := sv m.2.2.2) (z := m.2.2.2) ⟨rfl, aP⟩ (M1 (u := sv ab.2.2.2) (z := ab.2.2.2) ⟨rfl, aQ⟩ a2n)) bD fun aw fx bg s de df => (lv (A5 (cs := #[V6 3, sv m.2.2.1, V3 aw 2 2, V6 0, V6 0, V3 none 0 0]) a8q C3 rfl (by kernel_rfl)) (al C3 df fun ar fy dg => ?_)))))))
 have dh : SH _ _ _ _ _ [q8 ar [V6 0, sv [], V3 none 0 0, V6 0, V6 0, V3 none 0 0] 42, _, _, _] := dg
 refine lw [V6 3, sv m.2.2.1, V3 aw 2 2, V6 0, V6 0, V3 none 0 0] C3 dh fun fz di => (P6 (lv (L3 rfl) (nq ?_)))
 obtain ⟨dj, dk, aV⟩ := ob bf
 refine j4 (IE dj w K [] bg [] []) ?_ ?_
 ·refine i5 ?_
  obtain ⟨fA, dl, bE⟩ := ob dk
  have dm := di.f3.f3.sb (sk (sk (sk (sd sz))))
  refine qw (fun (aC : Int) => IW w K [] bg [(5, pt ac), (6, pt ad), (7, sv m.2.2.1), (8, sv m.2.2.2), (12, sv ab.2.2.2), (13, pt ar), (14, V6 aC)] [q8 ac [V3 x y C, V3 D G H] 26, q8 ad [V3 U V W, V3 X Y aa] 46, q8 ar [V6 3, sv m.2.2.1, V3 aw 2 2, V6 0, V6 0, V3 none 0 0] 42] (d9 aC)) dl ⟨bg, rfl, dm, kr, I0⟩ ?_
  rintro aC _ fB fC dn bF ⟨bG, rfl, aH, o, fD⟩
  refine k8 (sr (mv rfl (fl a03 rfl a5w m1 aH rfl (lv (k9 underlying35 rfl (b7.mono (((k.le.trans l).trans s).trans o) an)) (lv (n8 rfl rfl) (nq (B5 dn rfl (fun dp bh => ?_) (fun dp bh => ?_))))))))
  ·refine i6 (qs (i5 (sr (fl a03 rfl a5w m1 aH rfl (mv rfl ?_)))))
   obtain ⟨aW, dq, dt⟩ := ob bh
   refine li underlying35 C0 (b7.mono (((k.le.trans l).trans s).trans o) an) dq fun du dv fE dw dx => ?_
   obtain ⟨dy, dz, dA, dB, dC, dD, rfl, aI, fF, fG⟩ := dw
   have dE : D0 _ du dv [V6 aW.Id, V3 dy dz dA, V3 dB dC dD] := dx
   refine fa X7 rfl (lv (u0 D8 rfl aH (dE 0 _ rfl)) (av rfl (nr (lv (L3 rfl) (ns (b1i (fun w' => E7 bG w' ∧ y7 ac [V3 x y C, V3 D G H] w' ∧ y7 ad [V3 U V W, V3 X Y aa] w') (fun w' => True) 10 [] mixed ?_))))))
   have R := aH.drew
   refine M3 (i := 0) (listed' := L_ 10 0) (y7 ac [V3 x y C, V3 D G H]) rfl (by kernel_rfl) (g6 (n9 (g6 (g6 (n9 (g6 (g6 B1))))))) (by kernel_rfl) rfl (by kernel_rfl) (by kernel_rfl) rfl (.inl fun _ h => h.2.1) ⟨⟨R.hasK kr, R.hasObj m0, R.hasObj m1⟩, (fun _ => trivial), by decide⟩ wn rfl (fun _ h => B2 (ds := [V3 x y C, V3 D G H]) E6 rfl rfl rfl h) (M3 (i := 1) (listed' := L_ 10 1) (y7 ad [V3 U V W, V3 X Y aa]) rfl (by kernel_rfl) (g6 (n9 (g6 (g6 (n9 (g6 (g6 B1))))))) (by kernel_rfl) rfl (by kernel_rfl) (by kernel_rfl) rfl (.inl fun _ h => h.2.2) ⟨⟨R.hasK kr, R.hasObj m0, R.hasObj m1⟩, (fun _ => trivial), by decide⟩ wn rfl (fun _ h => B2 (ds := [V3 U V W, V3 X Y aa]) G0 rfl rfl rfl h) ?_)
   refine M3 (i := 2) (listed' := L_ 10 2) (fun _ => True) rfl (by kernel_rfl) (g6 (n9 (g6 (g6 (n9 (g6 (g6 B1))))))) (by kernel_rfl) rfl (by kernel_rfl) (by kernel_rfl) rfl (.inl fun _ _ => trivial) ⟨⟨R.hasK kr, R.hasObj m0, R.hasObj m1⟩, (fun _ => trivial), by decide⟩ wn rfl (fun _ _ => (d6 rfl)) (M3 (i := 3) (listed' := L_ 10 3) (y7 ac [V3 x y C, V3 D G H]) rfl (by kernel_rfl) (g6 (n9 (g6 (g6 (n9 (g6 (g6 B1))))))) (by kernel_rfl) rfl (by kernel_rfl) (by kernel_rfl) rfl (.inl fun _ h => h.2.1) ⟨⟨R.hasK kr, R.hasObj m0, R.hasObj m1⟩, (fun _ => trivial), by decide⟩ wn rfl (fun _ h => B2 (ds := [V3 x y C, V3 D G H]) E6 rfl rfl rfl h) (M3 (i := 4) (listed' := L_ 10 4) (fun _ => True) rfl (by kernel_rfl) (g6 (n9 (g6 (g6 (n9 (g6 (g6 B1))))))) (by kernel_rfl) rfl (by kernel_rfl) (by kernel_rfl) rfl (.inl fun _ _ => trivial) ⟨⟨R.hasK kr, R.hasObj m0, R.hasObj m1⟩, (fun _ => trivial), by decide⟩ wn rfl (fun _ _ => (d6 rfl)) ?_))
   refine M3 (i := 7) (listed' := #[true, true, true, true, true, false, false, true, false, false]) (fun _ => True) rfl (by kernel_rfl) (g6 (n9 (g6 (g6 (n9 (g6 (g6 B1))))))) (by kernel_rfl) rfl (by kernel_rfl) (by kernel_rfl) rfl (.inl fun _ _ => trivial) ⟨⟨R.hasK kr, R.hasObj m0, R.hasObj m1⟩, (fun _ => trivial), by decide⟩ wn rfl (fun _ _ => (d6 rfl)) (a5W (i := 5) (by kernel_rfl) rfl ?_)
   obtain ⟨fH, dF, dG⟩ := ob dt
   refine lk b9Y (a88 F R.enter0 (b7.mono (((k.le.trans l).trans s).trans o) ah) (b7.mono (((k.le.trans l).trans s).trans o) ag) aP dF) ?_
   rintro fI fJ ⟨fK, rfl, q, dH⟩
   have aJ := (R.c0 q).t3
   refine d7 (a6x (listed' := #[true, true, true, true, true, true, false, true, false, false]) rfl ⟨⟨aJ.hasK q.le, aJ.hasObj m0, aJ.hasObj m1⟩, (fun _ => trivial), by decide⟩ (a5W (i := 6) (by kernel_rfl) rfl ?_))
   obtain ⟨fL, dI, dJ⟩ := ob dG
   refine lk c1w (b3n F aJ.enter0 (b7.mono ((((k.le.trans l).trans s).trans o).trans q.le) ah) (b7.mono ((((k.le.trans l).trans s).trans o).trans q.le) ag) (b7.mono ((((k.le.trans l).trans s).trans o).trans q.le) an) (b7.mono ((((k.le.trans l).trans s).trans o).trans q.le) au) aF dH dI) ?_
   rintro fM fN ⟨fO, fP, fQ, fR, rfl, I, dK⟩
   have aK := (aJ.c0 I).t4
   refine d7 (a6x (listed' := L_ 10 7) rfl ⟨⟨aK.hasK (q.le.trans I.le), aK.hasObj m1, aK.hasObj m2⟩, (fun _ => trivial), by decide⟩ (a5W (i := 8) (by kernel_rfl) rfl ?_))
   obtain ⟨fS, dL, dM⟩ := ob dJ
   refine lk c1v (c0q F aK.enter0 dK aI dL) ?_
   rintro fT fU ⟨bH, bI, bJ, dN, rfl, O, bK⟩
   have ax := (aK.c0 O).t4
   refine d7 (a6x (listed' := L_ 10 8) rfl ⟨⟨ax.hasK ((q.le.trans I.le).trans O.le), ax.hasObj m1, ax.hasObj m2⟩, (fun _ => trivial), by decide⟩ (M3 (i := 9) (listed' := L_ 10 9) (fun _ => True) rfl (by kernel_rfl) (g6 (n9 (g6 (g6 (n9 (g6 (g6 B1))))))) (by kernel_rfl) rfl (by kernel_rfl) (by kernel_rfl) rfl (.inl fun _ _ => trivial) ⟨⟨ax.hasK ((q.le.trans I.le).trans O.le), ax.hasObj m1, ax.hasObj m2⟩, (fun _ => trivial), by decide⟩ wn rfl (fun _ _ => (r9 rfl)) (a6K (by kernel_rfl) (qs ?_))))
   have aL := ax.drew
   refine j_0 (fun w' => E7 dN w' ∧ y7 ac [V3 x y C, V3 D G H] w' ∧ y7 ad [V3 U V W, V3 X Y aa] w') 10 [] mixed ⟨aL.hasK kr, aL.hasObj m1, aL.hasObj m2⟩ (jh 0 rfl (fun _ h => B2 (ds := [V3 x y C, V3 D G H]) E6 rfl rfl rfl h.2.1) (jh 1 rfl (fun _ h => B2 (ds := [V3 U V W, V3 X Y aa]) G0 rfl rfl rfl h.2.2) (jv 2 rfl (d6 rfl) (jh 3 rfl (fun _ h => B2 (ds := [V3 x y C, V3 D G H]) E6 rfl rfl rfl h.2.1) (jv 4 rfl (d6 rfl) (jv 7 rfl (d6 rfl) (j1 5 rfl ?_)))))))
   obtain ⟨fV, dO, dP⟩ := ob dM
   refine lk b9Y (a88 F aL.enter0 (b7.mono ((((((k.le.trans l).trans s).trans o).trans q.le).trans I.le).trans O.le) ah) (b7.mono ((((((k.le.trans l).trans s).trans o).trans q.le).trans I.le).trans O.le) ag) aQ dO) ?_
   rintro fW fX ⟨fY, rfl, J, dQ⟩
   have aM := (aL.c0 J).t4
   refine W2 ⟨aM.hasK J.le, aM.hasObj m1, aM.hasObj m2⟩ (j1 6 rfl ?_)
   obtain ⟨fZ, dR, dS⟩ := ob dP
   refine lk c1w (b3n F aM.enter0 (b7.mono (((((((k.le.trans l).trans s).trans o).trans q.le).trans I.le).trans O.le).trans J.le) ah) (b7.mono (((((((k.le.trans l).trans s).trans o).trans q.le).trans I.le).trans O.le).trans J.le) ag) (b7.mono (((((((k.le.trans l).trans s).trans o).trans q.le).trans I.le).trans O.le).trans J.le) an) (b7.mono (((((((k.le.trans l).trans s).trans o).trans q.le).trans I.le).trans O.le).trans J.le) au) aF dQ dR) ?_
   rintro ga gb ⟨gc, gd, ge, gg, rfl, S, dT⟩
   have aN := (aM.c0 S).t5
   refine W2 ⟨aN.hasK (J.le.trans S.le), aN.hasObj m2, aN.hasObj m3⟩ (j1 8 rfl ?_)
   obtain ⟨gj, dU, dV⟩ := ob dS
   refine lk c1v (c0q F aN.enter0 dT aI dU) ?_
   rintro gk gl ⟨bL, bM, bN, bi, rfl, T, dW⟩
   have aX := (aN.c0 T).t5
   refine W2 ⟨aX.hasK ((J.le.trans S.le).trans T.le), aX.hasObj m2, aX.hasObj m3⟩ (jv 9 rfl (r9 rfl) (jd (qs (sr (lv (L3 rfl) (nq ?_))))))
   obtain ⟨bO, dX, dY⟩ := ob dV
   refine j4 (IW w K [] bi [(5, pt ac), (6, pt ad), (7, sv m.2.2.1), (8, sv m.2.2.2), (12, sv ab.2.2.2), (13, pt ar), (14, V6 aC), (15, V6 aW.Id), (16, V6 bO)] [q8 ac [V3 x y C, V3 D G H] 26, q8 ad [V3 U V W, V3 X Y aa] 46, q8 ar [V6 3, sv m.2.2.1, V3 aw 2 2, V6 0, V6 0, V3 none 0 0] 42] (d9 bO)) ?_ ?_
   ·refine i5 ?_
    obtain ⟨gm, dZ, ea⟩ := ob dX
    have eb := aX.sb (sd (sd (sk (sk (sk sz)))))
    refine qw (fun (ay : Int × Int) => IW w K [] bi [(5, pt ac), (6, pt ad), (7, sv m.2.2.1), (8, sv m.2.2.2), (12, sv ab.2.2.2), (13, pt ar), (14, V6 aC), (15, V6 aW.Id), (16, V6 ay.1), (17, V3 bH bI bJ), (18, V3 bL bM bN), (19, V6 ay.2)] [q8 ac [V3 x y C, V3 D G H] 26, q8 ad [V3 U V W, V3 X Y aa] 46, q8 ar [V6 3, sv m.2.2.1, V3 aw 2 2, V6 0, V6 0, V3 none 0 0] 42] (d9 ay.1 ∧ d9 ay.2)) dZ ⟨bi, rfl, eb, kr, I0, I0⟩ ?_
    rintro ay _ go gp ec ed ⟨bj, rfl, bP, aD, bQ, gq⟩
    refine k8 (k8 ?_)
    obtain ⟨ee, ef, eg⟩ := ob ec
    refine j4 (IV w K [] bj [(5, pt ac), (6, pt ad), (7, sv m.2.2.1), (8, sv m.2.2.2), (12, sv ab.2.2.2), (13, pt ar), (14, V6 aC), (15, V6 aW.Id), (16, V6 ay.1), (17, V3 bH bI bJ), (18, V3 bL bM bN), (19, V6 ay.2), (116, .bool ee)] [q8 ac [V3 x y C, V3 D G H] 26, q8 ad [V3 U V W, V3 X Y aa] 46, q8 ar [V6 3, sv m.2.2.1, V3 aw 2 2, V6 0, V6 0, V3 none 0 0] 42]) ?_ ?_
    ·refine i7 (mv rfl (mv rfl (lv (k9 underlying55 rfl (b7.mono (((J.le.trans S.le).trans T.le).trans aD) bK)) (lv (n8 rfl rfl) (mv rfl (bt ef (fun az bk => ?_) (fun az bk => ?_)))))))
     ·refine lg az (d6 rfl) (lg az (n8 rfl rfl) (lv (j3 rfl az rfl) (d7 ?_)))
      cases oi bk
      exact qd ⟨bj, rfl, bP, kr⟩
     refine lu az (lu az (lv (F7 rfl az rfl) (d7 ?_)))
     cases oi bk
     exact qd ⟨bj, rfl, bP, kr⟩
    rintro _ gr ⟨eh, rfl, aY, aO⟩
    refine j6 (B5 eg rfl (fun ei bl => ?_) (fun ei bl => ?_))
    ·refine i6 (qs (i5 (sr (mv rfl (mv rfl (mv rfl ?_))))))
     obtain ⟨ej, ek, el⟩ := ob bl
     refine li underlying55 D8 (b7.mono ((((J.le.trans S.le).trans T.le).trans aD).trans aO) bK) ek fun em en gv eo ep => ?_
     obtain ⟨rfl, gw⟩ := eo
     have eq : D0 _ em en [V6 ej] := ep
     refine lv (u0 D8 rfl aY (eq 0 _ rfl)) (lv (s6 rfl rfl) ?_)
     obtain ⟨gx, es, et⟩ := ob el
     refine lk c1D (c0J F aY.enter0 (dW.mono (aD.trans aO)) (l9 _) es) ?_
     rintro gy gz ⟨bR, rfl, bm⟩
     have bS := (aY.c0 bm).t3
     refine nq (B5 et rfl (fun eu bn => ?_) (fun eu bn => ?_))
     ·refine i7 (mv rfl (lv (s6 rfl rfl) (av rfl (nb (j6 (i7 (mv rfl (lv (s6 rfl rfl) (av rfl ?_)))))))))
      refine d7 ?_
      cases oi bn
      exact qd ⟨_, rfl, bR, rfl, bS, ((aD.trans aO).trans bm.le), (l9 _), (l9 _)⟩
     refine i6 (o0 (j6 (i7 (mv rfl (lv (s6 rfl rfl) (av rfl (d7 ?_)))))))
     cases oi bn
     exact qd ⟨_, rfl, bR, rfl, bS, ((aD.trans aO).trans bm.le), bQ, (l9 _)⟩
    refine q7 (d4 (d4 ?_))
    cases oi bl
    cases ed _ rfl
    refine j5 ?_
    cases oi ea
    exact qd ⟨eh, rfl, aY, (aD.trans aO), bQ⟩
   rintro _ gA ⟨gB, rfl, bo, ae, gC⟩
   refine qr (lv (l3 (ds := [V3 x y C, V3 D G H]) E6 rfl m0 bo rfl rfl) (lv (l3 (ds := [V3 U V W, V3 X Y aa]) G0 rfl m1 bo rfl rfl) (mv rfl (mv rfl (lb B8 (sv m.2.2.2) [sv m.2.2.2] m.2.2.2 underlying23 D9 ⟨rfl, aP⟩ bo fun ev gD gE af ew bp => (lv (A5 (cs := #[V6 2, sv m.2.2.1, V3 ev 1 1, V6 0, V6 0, V3 none 0 0]) a8q C3 rfl (by kernel_rfl)) (mv rfl ?_)))))))
   obtain ⟨gF, ex, eA⟩ := ob dY
   refine lk b6t ((a1t F (q2 := (r5.mk (2 : Int) m.2.2.1 ([m.2.2.2] : List k6) (0 : Int) (0 : Int) ([] : List r5)))) bp.enter0 (b7.mono (((((((((((k.le.trans l).trans s).trans o).trans q.le).trans I.le).trans O.le).trans J.le).trans S.le).trans T.le).trans ae).trans af) ah) (b7.mono (((((((((((k.le.trans l).trans s).trans o).trans q.le).trans I.le).trans O.le).trans J.le).trans S.le).trans T.le).trans ae).trans af) ag) (b7.mono (((((((((((k.le.trans l).trans s).trans o).trans q.le).trans I.le).trans O.le).trans J.le).trans S.le).trans T.le).trans ae).trans af) an) (b7.mono (((((((((((k.le.trans l).trans s).trans o).trans q.le).trans I.le).trans O.le).trans J.le).trans S.le).trans T.le).trans ae).trans af) au) (by decide : d9 2) aF ew I0 I0 (b7.nil _ _) aI (hG10.keep bp) hD ex) ?_
   rintro gG gH ⟨gI, rfl, am, gJ⟩
   have bq := (bp.c0 am).t4
   refine av rfl (nr (lv (l3 (ds := [V3 x y C, V3 D G H]) E6 rfl m1 bq rfl rfl) (lv (l3 (ds := [V3 U V W, V3 X Y aa]) G0 rfl m2 bq rfl rfl) (mv rfl (mv rfl (lb B8 (sv ab.2.2.2) [sv ab.2.2.2] ab.2.2.2 underlying23 D9 ⟨rfl, aQ⟩ bq fun eB gK gL ap eC br => (lv (A5 (cs := #[V6 2, sv m.2.2.1, V3 eB 1 1, V6 0, V6 0, V3 none 0 0]) a8q C3 rfl (by kernel_rfl)) (mv rfl ?_))))))))
   obtain ⟨gM, eD, eE⟩ := ob eA
   refine lk b6t ((a1t F (q2 := (r5.mk (2 : Int) m.2.2.1 ([ab.2.2.2] : List k6) (0 : Int) (0 : Int) ([] : List r5)))) br.enter0 (b7.mono (((((((((((((k.le.trans l).trans s).trans o).trans q.le).trans I.le).trans O.le).trans J.le).trans S.le).trans T.le).trans ae).trans af).trans am.le).trans ap) ah) (b7.mono (((((((((((((k.le.trans l).trans s).trans o).trans q.le).trans I.le).trans O.le).trans J.le).trans S.le).trans T.le).trans ae).trans af).trans am.le).trans ap) ag) (b7.mono (((((((((((((k.le.trans l).trans s).trans o).trans q.le).trans I.le).trans O.le).trans J.le).trans S.le).trans T.le).trans ae).trans af).trans am.le).trans ap) an) (b7.mono (((((((((((((k.le.trans l).trans s).trans o).trans q.le).trans I.le).trans O.le).trans J.le).trans S.le).trans T.le).trans ae).trans af).trans am.le).trans ap) au) (by decide : d9 2) aF eC I0 I0 (b7.nil _ _) aI (hG10.keep br) hD eD) ?_
   rintro gN gO ⟨gP, rfl, aA, gQ⟩
   have aE := (br.c0 aA).t5
   refine av rfl (nr (lv (l3 (ds := [V3 x y C, V3 D G H]) E6 rfl m2 aE rfl rfl) (lv (l3 (ds := [V3 U V W, V3 X Y aa]) G0 rfl m3 aE rfl rfl) (lv (l3 (ds := [V6 3, sv m.2.2.1, V3 aw 2 2, V6 0, V6 0, V3 none 0 0]) C3 rfl m4 aE rfl rfl) (mv rfl ?_)))))
   obtain ⟨gR, eF, eG⟩ := ob eE
   refine lk b6t ((a1t F (q2 := (r5.mk (3 : Int) m.2.2.1 ([m.2.2.2, ab.2.2.2] : List k6) (0 : Int) (0 : Int) ([] : List r5)))) aE.enter0 (b7.mono ((((((((((((((k.le.trans l).trans s).trans o).trans q.le).trans I.le).trans O.le).trans J.le).trans S.le).trans T.le).trans ae).trans af).trans am.le).trans ap).trans aA.le) ah) (b7.mono ((((((((((((((k.le.trans l).trans s).trans o).trans q.le).trans I.le).trans O.le).trans J.le).trans S.le).trans T.le).trans ae).trans af).trans am.le).trans ap).trans aA.le) ag) (b7.mono ((((((((((((((k.le.trans l).trans s).trans o).trans q.le).trans I.le).trans O.le).trans J.le).trans S.le).trans T.le).trans ae).trans af).trans am.le).trans ap).trans aA.le) an) (b7.mono ((((((((((((((k.le.trans l).trans s).trans o).trans q.le).trans I.le).trans O.le).trans J.le).trans S.le).trans T.le).trans ae).trans af).trans am.le).trans ap).trans aA.le) au) (by decide : d9 3) aF (b7.mono (((((((((((o.trans q.le).trans I.le).trans O.le).trans J.le).trans S.le).trans T.le).trans ae).trans af).trans am.le).trans ap).trans aA.le) de) I0 I0 (b7.nil _ _) aI (hG10.keep aE) hD eF) ?_
   rintro gS gT ⟨bT, rfl, bU, gU⟩
   have bV := (aE.c0 bU).t5
   refine mv rfl (mv rfl (lv (s6 rfl rfl) (mv rfl (lv (I9 rfl rfl) (lv (W3 rfl rfl) (nq (B5 eG rfl (fun eH bs => ?_) (fun eH bs => ?_))))))))
   ·refine sr (lv (M7 rfl) (nq (i9 (d8 (c9 (c9 ?_))))))
    cases oi bs
    cases bF _ rfl
    refine d8 (c9 ?_)
    cases oi bE
    refine c9 ?_
    cases oi aV
    exact ey results4 ⟨bT, rfl, bV.s⟩
   refine i6 (o0 (j6 (i7 (mv rfl (lv (s6 rfl rfl) (av rfl (d7 ?_)))))))
   cases oi bs
   exact qd ⟨_, rfl, bT, rfl, bV.s, ((((((((((((o.trans q.le).trans I.le).trans O.le).trans J.le).trans S.le).trans T.le).trans ae).trans af).trans am.le).trans ap).trans aA.le).trans bU.le), (l9 _)⟩
  refine q7 (d4 (d4 ?_))
  cases oi bh
  cases bF _ rfl
  refine j5 ?_
  cases oi bE
  exact H9 ⟨_, bG, rfl, rfl, aH.s, o⟩ trivial
 rintro _ gV ⟨gW, eI, rfl, rfl, eJ, gX⟩
 have aV := C8 aV
 refine qr (lv (r_t rfl) (nq (i9 ?_)))
 cases oi aV
 exact ey results4 ⟨eI, rfl, eJ⟩
end Go.Proofs.YtmkhlppjphodfaaGreatDoor
