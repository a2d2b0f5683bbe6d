/-
 Walks of the functions. Printed by gen.py.
-/
import Derived.Test.YtmkhlppjphodfaaGreatDoorModelL
import Derived.Test.YtmkhlppjphodfaaGreatDoorWalkA0
import Derived.Test.YtmkhlppjphodfaaGreatDoorWalkA3
import Derived.Test.YtmkhlppjphodfaaGreatDoorWalkA4
import Derived.Test.YtmkhlppjphodfaaGreatDoorWalkA5
set_option linter.unusedVariables false
set_option linter.unusedSectionVars false
set_option maxRecDepth 100000
namespace Go.Proofs.YtmkhlppjphodfaaGreatDoor
set_option maxHeartbeats 4000000
open Go Go.Fk Go.RowKit Tryz
variable (F : Nat) {w : World} {K : C5} {Z : List Nat} {g1 g2 g3 : Nat} {A B C D G H I J O R S T : Option Addr} {a b c d f i k l m n o p q s v x y aa ab ac ad ae af ag : Nat}
variable [dr : Dr]

theorem a2I {q0 : List UInt8} {r : q9 × z2 × r5 × Int} (hS : SH w K [] w K []) (ag : b7 tU8 K A a b q0) (hm : N1 F q0 = some r) :
  Calls prog 42 #[V3 A a b] w fun e w' => ∃ a_1 n_2 c_3 a_5 n_6 c_7 a_9 n_10 c_11 a_13 n_14 c_15 a_19 n_20 c_21 a_25 n_26 c_27 K', e = .returned (.tuple #[.agg #[V3 a_1 n_2 c_3, V3 a_5 n_6 c_7], .agg #[V3 a_9 n_10 c_11, V3 a_13 n_14 c_15], .agg #[V6 r.2.2.1.Kind, sv r.2.2.1.Field, V3 a_19 n_20 c_21, V6 r.2.2.1.From, V6 r.2.2.1.To, V3 a_25 n_26 c_27], V6 r.2.2.2]) ∧ SH w K [] w' K' [tail (V3 a_1 n_2 c_3) 9 1, tail (V3 a_5 n_6 c_7) 96 2, tail (V3 a_13 n_14 c_15) 112 3, tail (V3 a_19 n_20 c_21) 9 1, tail (V3 a_25 n_26 c_27) 42 6] ∧ b7 B8 K' a_1 n_2 c_3 r.1.Stops ∧ b7 I4 K' a_5 n_6 c_7 r.1.Syns ∧ b7 E1 K' a_9 n_10 c_11 r.2.1.Docs ∧ b7 z6 K' a_13 n_14 c_15 r.2.1.Entries ∧ d9 r.2.2.1.Kind ∧ r.2.2.1.Field.length ≤ maxLen ∧ b7 B8 K' a_19 n_20 c_21 r.2.2.1.Words ∧ d9 r.2.2.1.From ∧ d9 r.2.2.1.To ∧ b7 E4 K' a_25 n_26 c_27 r.2.2.1.Kids ∧ d9 r.2.2.2 := by
 rw [N1] at hm
 refine ci func42 rfl ntmps42 (sr (al E6 hS fun g5 w6 ai => ?_))
 have aj : SH _ _ _ _ _ [q8 g5 [V3 none 0 0, V3 none 0 0] 26] := ai
 refine al G0 aj fun g9 bo am => ?_
 have an : SH _ _ _ _ _ [q8 g9 [V3 none 0 0, V3 none 0 0] 46, _] := am
 refine al C3 an fun ao bp ap => ?_
 have Y : SH _ _ _ _ _ [q8 ao [V6 0, sv [], V3 none 0 0, V6 0, V6 0, V3 none 0 0] 42, _, _] := ap
 refine lv (L3 rfl) (nr (mv rfl ?_))
 obtain ⟨bq, aq, ar⟩ := ob hm
 refine lk b90 (a8m F Y.enter0 ag aq) ?_
 rintro br bs ⟨bu, bv, bx, bz, bA, rfl, au, aw, ax⟩
 have aa := (Y.c0 au).t4
 refine av rfl (nr (mv rfl ?_))
 obtain ⟨bB, ay, az⟩ := ob ar
 refine lk b94 (a6t F aa.e1 aw ax ay) ?_
 rintro bC bD ⟨k, l, m, o, q, s, x, y, B, C, D, G, bE, bF, bG, bH, rfl, aA, aB, aC, aD, aE, aF, aG⟩
 have aH := (aa.c1 aA).t7
 refine mv rfl (lv (B3 rfl rfl) (lv (B3 rfl rfl) (al E6 aH fun ab bI aI => ?_)))
 have aJ : SH _ _ _ _ _ [q8 ab [V3 none 0 0, V3 none 0 0] 26, _, _, _, _, _, _, _] := aI
 refine al G0 aJ fun ac bJ aK => ?_
 have aL : SH _ _ _ _ _ [q8 ac [V3 none 0 0, V3 none 0 0] 46, _, _, _, _, _, _, _, _] := aK
 refine lw [V3 k l m, V3 o q s] E6 aL.f1 fun bK aM => (lw [V3 x y B, V3 C D G] G0 aM.f1 fun bL aN => (nr (mv rfl ?_)))
 obtain ⟨d, aO, aP⟩ := ob az
 have ad := aN.f5
 refine lk b2J (a7b F ad.e1 aF aG (by decide : d9 3) aO) ?_
 rintro bM bN ⟨H, I, J, O, R, S, bO, bP, bQ, aQ, rfl, T, aR, aS, aT, aU, aV, aW, aX, aY⟩
 have aZ := (ad.c1 T).t11
 refine al C3 aZ fun ae bR ba => ?_
 have bb : SH _ _ _ _ _ [q8 ae [V6 0, sv [], V3 none 0 0, V6 0, V6 0, V3 none 0 0] 42, _, _, _, _, _, _, _, _, _, _, _] := ba
 refine lw [V6 d.1.Kind, sv d.1.Field, V3 H I J, V6 d.1.From, V6 d.1.To, V3 O R S] C3 bb fun bS bc => (ns ?_)
 have U := bc.drew
 refine wh1 (fun w' => E7 aQ w' ∧ y7 ab [V3 k l m, V3 o q s] w' ∧ y7 ac [V3 x y B, V3 C D G] w' ∧ y7 ae [V6 d.1.Kind, sv d.1.Field, V3 H I J, V6 d.1.From, V6 d.1.To, V3 O R S] w') (fun w' => True) 9 [] mixed ⟨U.hasK kr, U.hasObj m5, U.hasObj m4, U.hasObj m0⟩ (fun _ => trivial) (gh (fun _ h => B2 (ds := [V3 k l m, V3 o q s]) E6 rfl rfl rfl h.2.1) (gh (fun _ h => B2 (ds := [V3 x y B, V3 C D G]) G0 rfl rfl rfl h.2.2.1) (gh (fun _ h => B2 (ds := [V6 d.1.Kind, sv d.1.Field, V3 H I J, V6 d.1.From, V6 d.1.To, V3 O R S]) C3 rfl rfl rfl h.2.2.2) (gt (d6 rfl) (gn ?_)))))
 obtain ⟨bT, bd, be⟩ := ob aP
 have af := U.f3
 refine lk a2C (u7 F af.e1 aX aY (by decide : d9 9) bd) ?_
 rintro bU bV ⟨bW, bX, bY, bf, rfl, f, bg, bZ, ca⟩
 have V := (af.c1 f).t12
 refine d7 (qh ⟨V.hasK f.le, V.hasObj m5, V.hasObj m4, V.hasObj m1⟩ (fun _ => trivial) (gn ?_))
 have bh : SH _ _ _ _ _ [_, _, _, _, _, _, _, _, _, _, _, _] := SH.front (p := [_, _, _, _, _, _, _, _, _, _, _]) V
 refine lw [V3 k l m, V3 o q s] E6 bh fun cb W => (d7 (qh ⟨W.hasK f.le, W.hasObj m6, W.hasObj m5, W.hasObj m2⟩ (fun _ => trivial) (gn ?_)))
 have bi : SH _ _ _ _ _ [_, _, _, _, _, _, _, _, _, _, _, _] := SH.front (p := [_, _, _, _, _, _, _, _, _, _, _]) W
 refine lw [V3 x y B, V3 C D G] G0 bi fun cc X => (d7 (qh ⟨X.hasK f.le, X.hasObj m7, X.hasObj m6, X.hasObj m3⟩ (fun _ => trivial) (gn ?_)))
 have bj : SH _ _ _ _ _ [_, _, _, _, _, _, _, _, _, _, _, _] := SH.front (p := [_, _, _, _, _, _, _, _, _, _, _]) X
 refine lw [V6 d.1.Kind, sv d.1.Field, V3 H I J, V6 d.1.From, V6 d.1.To, V3 O R S] C3 bj fun cd i => (d7 (qh ⟨i.hasK f.le, i.hasObj m8, i.hasObj m7, i.hasObj m4⟩ (fun _ => trivial) (gt (r9 rfl) (gd' (j6 (i9 ?_))))))
 cases oi be
 have bk : SH _ _ _ _ _ [_, _, _, _, _, _, _, _, _, _, _, _] := SH.front (p := [_, _, _, _, _, _, _, _, _, _, _]) i.f6.f6
 have bl : SH _ _ _ _ _ [_, _, _, _, _, _, _, _, _, _, _, _] := SH.front (p := [_, _, _, _, _, _, _, _, _, _, _]) bk
 have bm : SH _ _ _ _ _ [_, _, _, _, _, _, _, _, _, _, _, _] := SH.front (p := [_, _, _, _, _, _, _, _, _, _, _]) bl
 exact R8 (vs := [_, _, _, _]) results42 ⟨⟨_, _, rfl, A8 E6 (cs := [V3 k l m, V3 o q s]) (fun j c e => by rw [Nat.zero_add, i.mem_obj m2]; exact e) (.inl ⟨rfl, rfl, rfl⟩)⟩, ⟨_, _, rfl, A8 G0 (cs := [V3 x y B, V3 C D G]) (fun j c e => by rw [Nat.zero_add, i.mem_obj m1]; exact e) (.inl ⟨rfl, rfl, rfl⟩)⟩, ⟨_, _, rfl, A8 C3 (cs := [V6 d.1.Kind, sv d.1.Field, V3 H I J, V6 d.1.From, V6 d.1.To, V3 O R S]) (fun j c e => by rw [Nat.zero_add, i.mem_obj m0]; exact e) (.inl ⟨rfl, rfl, rfl⟩)⟩, rfl, trivial⟩ ⟨k, l, m, o, q, s, x, y, B, C, D, G, H, I, J, O, R, S, bf, rfl, bm.s, (aB.mono (T.le.trans f.le)), (aC.mono (T.le.trans f.le)), (aD.mono (T.le.trans f.le)), (aE.mono (T.le.trans f.le)), aR, aS, (aT.mono f.le), aU, aV, (aW.mono f.le), bg⟩

theorem a5S {q0 : List UInt8} {q1 : List UInt8} {r : Bool} (hS : SH w K [] w K []) (bB : b7 tU8 K A a b q0) (bC : b7 tU8 K B c d q1) (hG10 : a9O O3 1 f U1 w) (hD : ¬ dr.D) (hm : a0k F q0 q1 = some r) :
  Calls prog 7 #[V3 A a b, V3 B c d] w (R_b w K r) := by
 rw [a0k] at hm
 refine ci func7 rfl ntmps7 (sr (lv (M7 rfl) (ns (k8 ?_))))
 obtain ⟨bO, bP, bQ⟩ := ob hm
 refine j4 (IV w K [] K [(0, V3 A a b), (1, V3 B c d), (25, .bool bO)] []) ?_ ?_
 ·refine i7 (mv rfl (lv (k9 underlying22 rfl bB) (lv (E5 rfl rfl) (mv rfl (bt bP (fun an aZ => ?_) (fun an aZ => ?_))))))
  ·refine lu an (lu an (lu an (lv (K5 rfl an rfl) (d7 ?_))))
   cases oi aZ
   exact qd ⟨K, rfl, hS, kr⟩
  refine lg an (d6 rfl) (lg an (k9 underlying22 rfl bC) (lg an (E5 rfl rfl) (lv (j9 rfl an rfl) (d7 ?_))))
  cases oi aZ
  exact qd ⟨K, rfl, hS, kr⟩
 rintro _ dB ⟨bR, rfl, ba, bD⟩
 refine j6 (B5 bQ rfl (fun bS bb => ?_) (fun bS bb => ?_))
 ·refine sr (lv (r_t rfl) (nq (rr ?_)))
  cases oi bb
  exact ey results7 ⟨bR, rfl, ba⟩
 refine i6 (qr (mv rfl ?_))
 obtain ⟨i, bT, bU⟩ := ob bb
 refine lk b9D (a2I F ba.enter0 (bB.mono bD) bT) ?_
 rintro dC dD ⟨aa, ab, ac, ad, ae, af, ag, ah, ai, aj, ak, am, s, x, y, C, D, G, dE, rfl, bE, aA, aB, aC, aD, aL, aM, aN, aO, aP, aQ, aR⟩
 have bV := (ba.c0 bE).t5
 refine mv rfl (lv (B3 rfl rfl) (lv (B3 rfl rfl) (lv (B3 rfl rfl) (lv (B3 rfl rfl) (al E6 bV fun bc dF bW => ?_)))))
 have bX : SH _ _ _ _ _ [q8 bc [V3 none 0 0, V3 none 0 0] 26, _, _, _, _, _] := bW
 refine al G0 bX fun bd u6 bY => ?_
 have bZ : SH _ _ _ _ _ [q8 bd [V3 none 0 0, V3 none 0 0] 46, _, _, _, _, _, _] := bY
 refine al C3 bZ fun be dG ca => ?_
 have cb : SH _ _ _ _ _ [q8 be [V6 0, sv [], V3 none 0 0, V6 0, V6 0, V3 none 0 0] 42, _, _, _, _, _, _, _] := ca
 refine lw [V3 aa ab ac, V3 ad ae af] E6 cb.f2 fun dH cc => (lw [V3 ag ah ai, V3 aj ak am] G0 cc.f2 fun dI cd => (lw [V6 i.2.2.1.Kind, sv i.2.2.1.Field, V3 s x y, V6 i.2.2.1.From, V6 i.2.2.1.To, V3 C D G] C3 cd.f2 fun dJ bF => (av rfl (nr (mv rfl ?_)))))
 obtain ⟨o, ce, cf⟩ := ob bU
 refine lk b9D (a2I F bF.enter0 (bC.mono (bD.trans bE.le)) ce) ?_
 rintro dK dL ⟨cg, ch, cj, ck, cl, cm, cn, cp, cq, cr, ct, cu, ar, au, aw, ax, ay, az, dM, rfl, k, dN, dO, dP, dQ, bG, bH, bI, bJ, bK, bL, dR⟩
 have cv : SH _ _ _ _ _ [_, _, _, _, _, _, _, _, _, _, _, _, _] := SH.call0 bF k
 refine mv rfl (lv (B3 rfl rfl) (lv (B3 rfl rfl) (lv (B3 rfl rfl) (lv (B3 rfl rfl) (al E6 cv fun cw dS cx => ?_)))))
 have cy : SH _ _ _ _ _ [q8 cw [V3 none 0 0, V3 none 0 0] 26, _, _, _, _, _, _, _, _, _, _, _, _, _] := cx
 refine al G0 cy fun cz dT cA => ?_
 have cB : SH _ _ _ _ _ [q8 cz [V3 none 0 0, V3 none 0 0] 46, _, _, _, _, _, _, _, _, _, _, _, _, _, _] := cA
 refine al C3 cB fun bf dU cC => ?_
 have cD : SH _ _ _ _ _ [q8 bf [V6 0, sv [], V3 none 0 0, V6 0, V6 0, V3 none 0 0] 42, _, _, _, _, _, _, _, _, _, _, _, _, _, _, _] := cC
 refine lw [V3 cg ch cj, V3 ck cl cm] E6 cD.f2 fun dV cE => (lw [V3 cn cp cq, V3 cr ct cu] G0 cE.f2 fun dW cF => (lw [V6 o.2.2.1.Kind, sv o.2.2.1.Field, V3 ar au aw, V6 o.2.2.1.From, V6 o.2.2.1.To, V3 ax ay az] C3 cF.f2 fun dX aS => (av rfl (nr (lv (l3 (ds := [V3 aa ab ac, V3 ad ae af]) E6 rfl m10 aS rfl rfl) (lv (l3 (ds := [V3 ag ah ai, V3 aj ak am]) G0 rfl m9 aS rfl rfl) (lv (l3 (ds := [V6 i.2.2.1.Kind, sv i.2.2.1.Field, V3 s x y, V6 i.2.2.1.From, V6 i.2.2.1.To, V3 C D G]) C3 rfl m8 aS rfl rfl) (mv rfl ?_))))))))
 obtain ⟨cG, cH, cI⟩ := ob cf
 refine lk b6t (a1t F aS.enter0 (aA.mono k.le) (aB.mono k.le) (aC.mono k.le) (aD.mono k.le) aL aM (aN.mono k.le) aO aP (aQ.mono k.le) aR (hG10.keep aS) hD cH) ?_
 rintro dY dZ ⟨ea, rfl, l, eb⟩
 have bg : SH _ _ _ _ _ [_, _, _, _, _, _, _, _, _, _, _, _, _, _, _, _] := SH.call0 aS l
 refine av rfl (nr (lv (l3 (ds := [V6 i.2.2.1.Kind, sv i.2.2.1.Field, V3 s x y, V6 i.2.2.1.From, V6 i.2.2.1.To, V3 C D G]) C3 rfl m8 bg rfl rfl) (lv (l3 (ds := [V6 o.2.2.1.Kind, sv o.2.2.1.Field, V3 ar au aw, V6 o.2.2.1.From, V6 o.2.2.1.To, V3 ax ay az]) C3 rfl m0 bg rfl rfl) ?_)))
 refine J1 (t := E4) (n := 2) (pv := [(0, .agg #[V6 i.2.2.1.Kind, sv i.2.2.1.Field, V3 s x y, V6 i.2.2.1.From, V6 i.2.2.1.To, V3 C D G]), (1, .agg #[V6 o.2.2.1.Kind, sv o.2.2.1.Field, V3 ar au aw, V6 o.2.2.1.From, V6 o.2.2.1.To, V3 ax ay az])]) (cs := [V6 i.2.2.1.Kind, sv i.2.2.1.Field, V3 s x y, V6 i.2.2.1.From, V6 i.2.2.1.To, V3 C D G, V6 o.2.2.1.Kind, sv o.2.2.1.Field, V3 ar au aw, V6 o.2.2.1.From, V6 o.2.2.1.To, V3 ax ay az]) (xs := [i.2.2.1, o.2.2.1]) wn rfl underlying40 C3 rfl rfl rfl (by kernel_rfl) rfl rfl (M1 (u := .agg #[V6 i.2.2.1.Kind, sv i.2.2.1.Field, V3 s x y, V6 i.2.2.1.From, V6 i.2.2.1.To, V3 C D G]) (z := i.2.2.1) (J0 ⟨s, x, y, C, D, G, rfl, aL, aM, (aN.mono (k.le.trans l.le)), aO, aP, (aQ.mono (k.le.trans l.le))⟩) (M1 (u := .agg #[V6 o.2.2.1.Kind, sv o.2.2.1.Field, V3 ar au aw, V6 o.2.2.1.From, V6 o.2.2.1.To, V3 ax ay az]) (z := o.2.2.1) (J0 ⟨ar, au, aw, ax, ay, az, rfl, bG, bH, (bI.mono l.le), bJ, bK, (bL.mono l.le)⟩) a2n)) bg ?_
 intro aE ec cJ m bM cK
 refine lv (A5 (cs := #[V6 7, sv [], V3 none 0 0, V6 0, V6 0, V3 aE 2 2]) a8q C3 rfl (by kernel_rfl)) (al C3 cK fun bh ed cL => ?_)
 have cM : SH _ _ _ _ _ [q8 bh [V6 0, sv [], V3 none 0 0, V6 0, V6 0, V3 none 0 0] 42, _, _, _, _, _, _, _, _, _, _, _, _, _, _, _, _, _] := cL
 refine ls [V6 7, sv [], V3 none 0 0, V6 0, V6 0, V3 aE 2 2] (.agg #[V6 7, sv [], V3 none 0 0, V6 0, V6 0, V3 aE 2 2]) C3 cM fun ee aU => (ns (k8 ?_))
 obtain ⟨cN, cO, cP⟩ := ob cI
 refine j4 (IV w K [] cJ [(5, pt bc), (6, pt bd), (7, pt be), (8, V6 i.2.2.2), (11, pt bf), (13, V6 cG), (14, pt bh), (66, .bool cN)] [q8 bc [V3 aa ab ac, V3 ad ae af] 26, q8 bd [V3 ag ah ai, V3 aj ak am] 46, q8 be [V6 i.2.2.1.Kind, sv i.2.2.1.Field, V3 s x y, V6 i.2.2.1.From, V6 i.2.2.1.To, V3 C D G] 42, q8 bf [V6 o.2.2.1.Kind, sv o.2.2.1.Field, V3 ar au aw, V6 o.2.2.1.From, V6 o.2.2.1.To, V3 ax ay az] 42, q8 bh [V6 7, sv [], V3 none 0 0, V6 0, V6 0, V3 aE 2 2] 42]) ?_ ?_
 ·refine i7 (mv rfl (lv (l3 (ds := [V3 aa ab ac, V3 ad ae af]) E6 rfl m12 aU rfl rfl) (lv (l3 (ds := [V3 ag ah ai, V3 aj ak am]) G0 rfl m11 aU rfl rfl) (lv (l3 (ds := [V6 i.2.2.1.Kind, sv i.2.2.1.Field, V3 s x y, V6 i.2.2.1.From, V6 i.2.2.1.To, V3 C D G]) C3 rfl m10 aU rfl rfl) (mv rfl ?_)))))
  obtain ⟨ef, cQ, cR⟩ := ob cO
  refine lk b9C (a4j F aU.enter0 (aA.mono ((k.le.trans l.le).trans m)) (aB.mono ((k.le.trans l.le).trans m)) (aC.mono ((k.le.trans l.le).trans m)) (aD.mono ((k.le.trans l.le).trans m)) aL aM (aN.mono ((k.le.trans l.le).trans m)) aO aP (aQ.mono ((k.le.trans l.le).trans m)) aR cQ) ?_
  rintro eg eh ⟨cS, rfl, ao, ei⟩
  have aV : SH _ _ _ _ _ [_, _, _, _, _, _, _, _, _, _, _, _, _, _, _, _, _, _] := SH.call0 aU ao
  refine lv (W3 rfl rfl) (mv rfl (bt cR (fun ap bi => ?_) (fun ap bi => ?_)))
  ·refine lu ap (lu ap (lu ap (lv (K5 rfl ap rfl) (mv rfl (lu rfl (lu rfl (lu rfl (lu rfl (lv (K5 rfl rfl rfl) ?_)))))))))
   refine d7 ?_
   cases oi bi
   have cT : SH _ _ _ _ _ [_, _, _, _, _, _, _, _, _, _, _, _, _, _, _, _, _, _] := SH.front (p := [_, _, _, _, _, _, _, _, _, _]) aV.f2
   have cU : SH _ _ _ _ _ [_, _, _, _, _, _, _, _, _, _, _, _, _, _, _, _, _, _] := SH.front (p := [_, _, _, _, _, _, _, _, _, _, _]) cT
   have cV : SH _ _ _ _ _ [_, _, _, _, _, _, _, _, _, _, _, _, _, _, _, _, _, _] := SH.front (p := [_, _, _, _, _, _, _, _, _, _, _, _]) cU
   exact qd ⟨cS, rfl, cV.s, ao.le⟩
  refine lg ap (l3 (ds := [V6 7, sv [], V3 none 0 0, V6 0, V6 0, V3 aE 2 2]) C3 rfl m0 aV rfl rfl) ?_
  obtain ⟨ej, cW, cX⟩ := ob bi
  refine x9 (wg rfl rfl ap) rfl (x8 (vs := [.agg #[V6 7, sv [], V3 none 0 0, V6 0, V6 0, V3 aE 2 2]]) b9E rfl) ((a4h F (q0 := (r5.mk (7 : Int) ([] : k6) ([] : List k6) (0 : Int) (0 : Int) ([i.2.2.1, o.2.2.1] : List r5)))) aV.enter0 (by decide : d9 7) (by decide : ([] : k6).length ≤ maxLen) (b7.nil _ _) I0 I0 (bM.mono ao.le) (hG10.keep aV) cW) ?_
  rintro ek el ⟨cY, rfl, aF⟩
  refine ⟨_, rfl, ?_⟩
  have aW : SH _ _ _ _ _ [_, _, _, _, _, _, _, _, _, _, _, _, _, _, _, _, _, _] := SH.call0 aV aF
  refine lg ap (y4 rfl) (lv (j9 rfl ap rfl) (mv rfl (bt cX (fun U bj => ?_) (fun U bj => ?_))))
  ·refine lu U (lu U (lu U (lu U (lv (K5 rfl U rfl) (d7 ?_)))))
   cases oi bj
   have cZ : SH _ _ _ _ _ [_, _, _, _, _, _, _, _, _, _, _, _, _, _, _, _, _, _] := SH.front (p := [_, _, _, _, _, _, _, _, _, _]) aW.f2
   have da : SH _ _ _ _ _ [_, _, _, _, _, _, _, _, _, _, _, _, _, _, _, _, _, _] := SH.front (p := [_, _, _, _, _, _, _, _, _, _, _]) cZ
   have db : SH _ _ _ _ _ [_, _, _, _, _, _, _, _, _, _, _, _, _, _, _, _, _, _] := SH.front (p := [_, _, _, _, _, _, _, _, _, _, _, _]) da
   exact qd ⟨cY, rfl, db.s, (ao.le.trans aF.le)⟩
  refine lg U (l3 (ds := [V3 aa ab ac, V3 ad ae af]) E6 rfl m12 aW rfl rfl) (lg U (l3 (ds := [V3 ag ah ai, V3 aj ak am]) G0 rfl m11 aW rfl rfl) ?_)
  obtain ⟨em, dc, dd⟩ := ob bj
  refine x9 (wg rfl rfl U) rfl (x8 (vs := [.agg #[V3 aa ab ac, V3 ad ae af], .agg #[V3 ag ah ai, V3 aj ak am]]) b9x rfl) (a5B F aW.enter0 (b7.mono ((((k.le.trans l.le).trans m).trans ao.le).trans aF.le) aA) (b7.mono ((((k.le.trans l.le).trans m).trans ao.le).trans aF.le) aB) (b7.mono ((((k.le.trans l.le).trans m).trans ao.le).trans aF.le) aC) (b7.mono ((((k.le.trans l.le).trans m).trans ao.le).trans aF.le) aD) dc) ?_
  rintro en eo ⟨de, rfl, bN⟩
  refine ⟨_, rfl, ?_⟩
  have df : SH _ _ _ _ _ [_, _, _, _, _, _, _, _, _, _, _, _, _, _, _, _, _, _] := SH.call0 aW bN
  refine lg U (y4 rfl) (lv (j9 rfl U rfl) (d7 ?_))
  cases oi dd
  have dg : SH _ _ _ _ _ [_, _, _, _, _, _, _, _, _, _, _, _, _, _, _, _, _, _] := SH.front (p := [_, _, _, _, _, _, _, _, _, _]) df.f2
  have dh : SH _ _ _ _ _ [_, _, _, _, _, _, _, _, _, _, _, _, _, _, _, _, _, _] := SH.front (p := [_, _, _, _, _, _, _, _, _, _, _]) dg
  have di : SH _ _ _ _ _ [_, _, _, _, _, _, _, _, _, _, _, _, _, _, _, _, _, _] := SH.front (p := [_, _, _, _, _, _, _, _, _, _, _, _]) dh
  exact qd ⟨de, rfl, di.s, ((ao.le.trans aF.le).trans bN.le)⟩
 rintro _ ep ⟨eq, rfl, V, q⟩
 refine j6 (B5 cP rfl (fun dj bk => ?_) (fun dj bk => ?_))
 ·refine sr (mv rfl (lv (l3 (ds := [V3 aa ab ac, V3 ad ae af]) E6 rfl m0 V rfl rfl) (lv (l3 (ds := [V3 ag ah ai, V3 aj ak am]) G0 rfl m1 V rfl rfl) (lv (l3 (ds := [V6 i.2.2.1.Kind, sv i.2.2.1.Field, V3 s x y, V6 i.2.2.1.From, V6 i.2.2.1.To, V3 C D G]) C3 rfl m2 V rfl rfl) (mv rfl ?_)))))
  obtain ⟨es, dk, dl⟩ := ob bk
  refine lk b9C (a4j F V.enter0 (b7.mono (((k.le.trans l.le).trans m).trans q) aA) (b7.mono (((k.le.trans l.le).trans m).trans q) aB) (b7.mono (((k.le.trans l.le).trans m).trans q) aC) (b7.mono (((k.le.trans l.le).trans m).trans q) aD) aL aM (b7.mono (((k.le.trans l.le).trans m).trans q) aN) aO aP (b7.mono (((k.le.trans l.le).trans m).trans q) aQ) aR dk) ?_
  rintro et eu ⟨dm, rfl, dn, ev⟩
  have dp := (V.c0 dn).t5
  refine lv (u3 rfl rfl) (av rfl (nq (rr ?_)))
  cases oi dl
  exact ey results7 ⟨dm, rfl, dp.s⟩
 refine i6 (qr (lv (l3 (ds := [V3 aa ab ac, V3 ad ae af]) E6 rfl m0 V rfl rfl) (lv (l3 (ds := [V3 ag ah ai, V3 aj ak am]) G0 rfl m1 V rfl rfl) (lv (l3 (ds := [V6 o.2.2.1.Kind, sv o.2.2.1.Field, V3 ar au aw, V6 o.2.2.1.From, V6 o.2.2.1.To, V3 ax ay az]) C3 rfl m3 V rfl rfl) (mv rfl ?_)))))
 obtain ⟨ew, dq, dt⟩ := ob bk
 refine lk b6t (a1t F V.enter0 (b7.mono (((k.le.trans l.le).trans m).trans q) aA) (b7.mono (((k.le.trans l.le).trans m).trans q) aB) (b7.mono (((k.le.trans l.le).trans m).trans q) aC) (b7.mono (((k.le.trans l.le).trans m).trans q) aD) bG bH (bI.mono ((l.le.trans m).trans q)) bJ bK (bL.mono ((l.le.trans m).trans q)) aR (hG10.keep V) hD dq) ?_
 rintro ex eA ⟨eB, rfl, I, eC⟩
 have aT := (V.c0 I).t5
 refine av rfl (nr (lv (l3 (ds := [V3 aa ab ac, V3 ad ae af]) E6 rfl m0 aT rfl rfl) (lv (l3 (ds := [V3 ag ah ai, V3 aj ak am]) G0 rfl m1 aT rfl rfl) (lv (l3 (ds := [V6 7, sv [], V3 none 0 0, V6 0, V6 0, V3 aE 2 2]) C3 rfl m4 aT rfl rfl) (mv rfl ?_)))))
 obtain ⟨eD, du, dv⟩ := ob dt
 refine lk b6t ((a1t F (q2 := (r5.mk (7 : Int) ([] : k6) ([] : List k6) (0 : Int) (0 : Int) ([i.2.2.1, o.2.2.1] : List r5)))) aT.enter0 (b7.mono ((((k.le.trans l.le).trans m).trans q).trans I.le) aA) (b7.mono ((((k.le.trans l.le).trans m).trans q).trans I.le) aB) (b7.mono ((((k.le.trans l.le).trans m).trans q).trans I.le) aC) (b7.mono ((((k.le.trans l.le).trans m).trans q).trans I.le) aD) (by decide : d9 7) (by decide : ([] : k6).length ≤ maxLen) (b7.nil _ _) I0 I0 (bM.mono (q.trans I.le)) aR (hG10.keep aT) hD du) ?_
 rintro eE eF ⟨eG, rfl, aq, eH⟩
 have aX := (aT.c0 aq).t5
 refine av rfl (nr (lv (l3 (ds := [V3 aa ab ac, V3 ad ae af]) E6 rfl m0 aX rfl rfl) (lv (l3 (ds := [V3 ag ah ai, V3 aj ak am]) G0 rfl m1 aX rfl rfl) (lv (l3 (ds := [V6 i.2.2.1.Kind, sv i.2.2.1.Field, V3 s x y, V6 i.2.2.1.From, V6 i.2.2.1.To, V3 C D G]) C3 rfl m2 aX rfl rfl) (lv (l3 (ds := [V6 i.2.2.1.Kind, sv i.2.2.1.Field, V3 s x y, V6 i.2.2.1.From, V6 i.2.2.1.To, V3 C D G]) C3 rfl m2 aX rfl rfl) ?_)))))
 refine J1 (t := E4) (n := 2) (pv := [(0, .agg #[V6 i.2.2.1.Kind, sv i.2.2.1.Field, V3 s x y, V6 i.2.2.1.From, V6 i.2.2.1.To, V3 C D G]), (1, .agg #[V6 i.2.2.1.Kind, sv i.2.2.1.Field, V3 s x y, V6 i.2.2.1.From, V6 i.2.2.1.To, V3 C D G])]) (cs := [V6 i.2.2.1.Kind, sv i.2.2.1.Field, V3 s x y, V6 i.2.2.1.From, V6 i.2.2.1.To, V3 C D G, V6 i.2.2.1.Kind, sv i.2.2.1.Field, V3 s x y, V6 i.2.2.1.From, V6 i.2.2.1.To, V3 C D G]) (xs := [i.2.2.1, i.2.2.1]) wn rfl underlying40 C3 rfl rfl rfl (by kernel_rfl) rfl rfl (M1 (u := .agg #[V6 i.2.2.1.Kind, sv i.2.2.1.Field, V3 s x y, V6 i.2.2.1.From, V6 i.2.2.1.To, V3 C D G]) (z := i.2.2.1) (J0 ⟨s, x, y, C, D, G, rfl, aL, aM, (b7.mono (((((k.le.trans l.le).trans m).trans q).trans I.le).trans aq.le) aN), aO, aP, (b7.mono (((((k.le.trans l.le).trans m).trans q).trans I.le).trans aq.le) aQ)⟩) (M1 (u := .agg #[V6 i.2.2.1.Kind, sv i.2.2.1.Field, V3 s x y, V6 i.2.2.1.From, V6 i.2.2.1.To, V3 C D G]) (z := i.2.2.1) (J0 ⟨s, x, y, C, D, G, rfl, aL, aM, (b7.mono (((((k.le.trans l.le).trans m).trans q).trans I.le).trans aq.le) aN), aO, aP, (b7.mono (((((k.le.trans l.le).trans m).trans q).trans I.le).trans aq.le) aQ)⟩) a2n)) aX ?_
 intro dw eI eJ aY dx bl
 refine lv (A5 (cs := #[V6 7, sv [], V3 none 0 0, V6 0, V6 0, V3 dw 2 2]) a8q C3 rfl (by kernel_rfl)) (mv rfl ?_)
 obtain ⟨eK, dy, dz⟩ := ob dv
 refine lk b6t ((a1t F (q2 := (r5.mk (7 : Int) ([] : k6) ([] : List k6) (0 : Int) (0 : Int) ([i.2.2.1, i.2.2.1] : List r5)))) bl.enter0 (b7.mono ((((((k.le.trans l.le).trans m).trans q).trans I.le).trans aq.le).trans aY) aA) (b7.mono ((((((k.le.trans l.le).trans m).trans q).trans I.le).trans aq.le).trans aY) aB) (b7.mono ((((((k.le.trans l.le).trans m).trans q).trans I.le).trans aq.le).trans aY) aC) (b7.mono ((((((k.le.trans l.le).trans m).trans q).trans I.le).trans aq.le).trans aY) aD) (by decide : d9 7) (by decide : ([] : k6).length ≤ maxLen) (b7.nil _ _) I0 I0 dx aR (hG10.keep bl) hD dy) ?_
 rintro eL eM ⟨J, rfl, dA, eN⟩
 have O := (bl.c0 dA).t6
 refine av rfl (nr (mv rfl (mv rfl (mv rfl (lv (s6 rfl rfl) (lv (u3 rfl rfl) (mv rfl (bt dz (fun aG bm => ?_) (fun aG bm => ?_)))))))))
 ·refine lg aG (d6 rfl) (lg aG (E5 rfl rfl) (lv (j3 rfl aG rfl) (mv rfl (bt bm (fun aH bn => ?_) (fun aH bn => ?_)))))
  ·refine lg aH (d6 rfl) (lg aH (E5 rfl rfl) (lv (j3 rfl aH rfl) (mv rfl (bt bn (fun H bo => ?_) (fun H bo => ?_)))))
   ·refine lu H (lu H (lu H (u1 (uu rfl rfl) rfl (u1 (uu rfl rfl) rfl (u1 (uu rfl rfl) rfl (u1 (uu rfl rfl) rfl (u1 (uu rfl rfl) rfl (u1 (uu rfl rfl) rfl (lu H ?_)))))))))
    refine lv (K5 rfl H rfl) (mv rfl (lg rfl (d6 rfl) (lg rfl (d6 rfl) (lg rfl (I9 rfl rfl) (lg rfl (u3 rfl rfl) (lv (j3 rfl rfl rfl) (av rfl (nq (i9 ?_)))))))))
    cases oi bo
    exact ey results7 ⟨J, rfl, O.s⟩
   refine lg H (d6 rfl) (lg H (u3 rfl rfl) (lg H (d6 rfl) (bt bo (fun R bp => ?_) (fun R bp => ?_))))
   ·refine lg R (d6 rfl) (lg R (u3 rfl rfl) (lg R (d6 rfl) (bt bp (fun aI bq => ?_) (fun aI bq => ?_))))
    ·refine lu aI (lu aI (lg R (K5 rfl aI rfl) (lg H (j3 rfl R rfl) (lv (j9 rfl H rfl) (mv rfl (lg rfl (d6 rfl) (lg rfl (d6 rfl) (lg rfl (I9 rfl rfl) (lg rfl (u3 rfl rfl) ?_)))))))))
     refine lv (j3 rfl rfl rfl) (av rfl (nq (i9 ?_)))
     cases oi bq
     exact ey results7 ⟨J, rfl, O.s⟩
    refine lg aI (d6 rfl) (lg aI (u3 rfl rfl) (lg R (j9 rfl aI rfl) (lg H (j3 rfl R rfl) (lv (j9 rfl H rfl) (mv rfl (bt bq (fun W br => ?_) (fun W br => ?_)))))))
    ·refine lg W (d6 rfl) (lg W (d6 rfl) (lg W (I9 rfl rfl) (lg W (u3 rfl rfl) (lv (j3 rfl W rfl) (av rfl (nq (i9 ?_)))))))
     cases oi br
     exact ey results7 ⟨J, rfl, O.s⟩
    refine lu W (lu W (lu W (lu W (lv (F7 rfl W rfl) (av rfl (nq (i9 ?_)))))))
    cases oi br
    exact ey results7 ⟨J, rfl, O.s⟩
   refine lu R (lu R (lu R (u1 (uu rfl rfl) rfl (u1 (uu rfl rfl) rfl (lu R (lg H (F7 rfl R rfl) (lv (j9 rfl H rfl) (mv rfl (lu rfl ?_)))))))))
   refine lu rfl (lu rfl (lu rfl (lv (F7 rfl rfl rfl) (av rfl (nq (i9 ?_))))))
   cases oi bp
   exact ey results7 ⟨J, rfl, O.s⟩
  refine lu aH (lu aH (lv (F7 rfl aH rfl) (mv rfl (lg rfl (d6 rfl) (lg rfl (u3 rfl rfl) (lg rfl (d6 rfl) (bt bn (fun S bs => ?_) (fun S bs => ?_))))))))
  ·refine lg S (d6 rfl) (lg S (u3 rfl rfl) (lg S (d6 rfl) (bt bs (fun aJ bu => ?_) (fun aJ bu => ?_))))
   ·refine lu aJ (lu aJ (lg S (K5 rfl aJ rfl) (lg rfl (j3 rfl S rfl) (lv (j9 rfl rfl rfl) (mv rfl (lg rfl (d6 rfl) (lg rfl (d6 rfl) (lg rfl (I9 rfl rfl) (lg rfl (u3 rfl rfl) ?_)))))))))
    refine lv (j3 rfl rfl rfl) (av rfl (nq (i9 ?_)))
    cases oi bu
    exact ey results7 ⟨J, rfl, O.s⟩
   refine lg aJ (d6 rfl) (lg aJ (u3 rfl rfl) (lg S (j9 rfl aJ rfl) (lg rfl (j3 rfl S rfl) (lv (j9 rfl rfl rfl) (mv rfl (bt bu (fun X bv => ?_) (fun X bv => ?_)))))))
   ·refine lg X (d6 rfl) (lg X (d6 rfl) (lg X (I9 rfl rfl) (lg X (u3 rfl rfl) (lv (j3 rfl X rfl) (av rfl (nq (i9 ?_)))))))
    cases oi bv
    exact ey results7 ⟨J, rfl, O.s⟩
   refine lu X (lu X (lu X (lu X (lv (F7 rfl X rfl) (av rfl (nq (i9 ?_)))))))
   cases oi bv
   exact ey results7 ⟨J, rfl, O.s⟩
  refine lu S (lu S (lu S (u1 (uu rfl rfl) rfl (u1 (uu rfl rfl) rfl (lu S (lg rfl (F7 rfl S rfl) (lv (j9 rfl rfl rfl) (mv rfl (lu rfl ?_)))))))))
  refine lu rfl (lu rfl (lu rfl (lv (F7 rfl rfl rfl) (av rfl (nq (i9 ?_))))))
  cases oi bs
  exact ey results7 ⟨J, rfl, O.s⟩
 refine lu aG (lu aG (lv (F7 rfl aG rfl) (mv rfl (lu rfl (lu rfl (lv (F7 rfl rfl rfl) (mv rfl (lg rfl (d6 rfl) (lg rfl (u3 rfl rfl) ?_)))))))))
 refine lg rfl (d6 rfl) (bt bm (fun T bx => ?_) (fun T bx => ?_))
 ·refine lg T (d6 rfl) (lg T (u3 rfl rfl) (lg T (d6 rfl) (bt bx (fun aK bz => ?_) (fun aK bz => ?_))))
  ·refine lu aK (lu aK (lg T (K5 rfl aK rfl) (lg rfl (j3 rfl T rfl) (lv (j9 rfl rfl rfl) (mv rfl (lg rfl (d6 rfl) (lg rfl (d6 rfl) (lg rfl (I9 rfl rfl) (lg rfl (u3 rfl rfl) ?_)))))))))
   refine lv (j3 rfl rfl rfl) (av rfl (nq (i9 ?_)))
   cases oi bz
   exact ey results7 ⟨J, rfl, O.s⟩
  refine lg aK (d6 rfl) (lg aK (u3 rfl rfl) (lg T (j9 rfl aK rfl) (lg rfl (j3 rfl T rfl) (lv (j9 rfl rfl rfl) (mv rfl (bt bz (fun Y bA => ?_) (fun Y bA => ?_)))))))
  ·refine lg Y (d6 rfl) (lg Y (d6 rfl) (lg Y (I9 rfl rfl) (lg Y (u3 rfl rfl) (lv (j3 rfl Y rfl) (av rfl (nq (i9 ?_)))))))
   cases oi bA
   exact ey results7 ⟨J, rfl, O.s⟩
  refine lu Y (lu Y (lu Y (lu Y (lv (F7 rfl Y rfl) (av rfl (nq (i9 ?_)))))))
  cases oi bA
  exact ey results7 ⟨J, rfl, O.s⟩
 refine lu T (lu T (lu T (u1 (uu rfl rfl) rfl (u1 (uu rfl rfl) rfl (lu T (lg rfl (F7 rfl T rfl) (lv (j9 rfl rfl rfl) (mv rfl (lu rfl ?_)))))))))
 refine lu rfl (lu rfl (lu rfl (lv (F7 rfl rfl rfl) (av rfl (nq (i9 ?_))))))
 cases oi bx
 exact ey results7 ⟨J, rfl, O.s⟩
end Go.Proofs.YtmkhlppjphodfaaGreatDoor
