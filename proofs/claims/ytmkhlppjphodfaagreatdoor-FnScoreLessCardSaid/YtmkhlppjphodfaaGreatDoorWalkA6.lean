/-
 Walks of the functions. Printed by gen.py.
-/
import Derived.Test.YtmkhlppjphodfaaGreatDoorModelL
import Derived.Test.YtmkhlppjphodfaaGreatDoorWalkA0
import Derived.Test.YtmkhlppjphodfaaGreatDoorWalkA3
import Derived.Test.YtmkhlppjphodfaaGreatDoorWalkA4
import Derived.Test.YtmkhlppjphodfaaGreatDoorWalkA5
set_option linter.unusedVariables false
set_option linter.unusedSectionVars false
set_option maxRecDepth 100000
namespace Go.Proofs.YtmkhlppjphodfaaGreatDoor
set_option maxHeartbeats 4000000
open Go Go.Fk Go.RowKit Tryz
variable (F : Nat) {w : World} {K : C5} {Z : List Nat} {g1 g2 g3 : Nat} {A B C D G H I J O R S T : Option Addr} {a b c d f i k l m n o p q s v x y aa ab ac ad ae af ag : Nat}
variable [dr : Dr]

theorem a2I {q0 : List UInt8} {r : q9 × z2 × r5 × Int} (hS : SH w K [] w K []) (ag : b7 tU8 K A a b q0) (hm : N1 F q0 = some r) :
  Calls prog 42 #[V3 A a b] w fun e w' => ∃ a_1 n_2 c_3 a_5 n_6 c_7 a_9 n_10 c_11 a_13 n_14 c_15 a_19 n_20 c_21 a_25 n_26 c_27 K', e = .returned (.tuple #[.agg #[V3 a_1 n_2 c_3, V3 a_5 n_6 c_7], .agg #[V3 a_9 n_10 c_11, V3 a_13 n_14 c_15], .agg #[V6 r.2.2.1.Kind, sv r.2.2.1.Field, V3 a_19 n_20 c_21, V6 r.2.2.1.From, V6 r.2.2.1.To, V3 a_25 n_26 c_27], V6 r.2.2.2]) ∧ SH w K [] w' K' [tail (V3 a_1 n_2 c_3) 9 1, tail (V3 a_5 n_6 c_7) 96 2, tail (V3 a_13 n_14 c_15) 112 3, tail (V3 a_19 n_20 c_21) 9 1, tail (V3 a_25 n_26 c_27) 42 6] ∧ b7 B8 K' a_1 n_2 c_3 r.1.Stops ∧ b7 I4 K' a_5 n_6 c_7 r.1.Syns ∧ b7 E1 K' a_9 n_10 c_11 r.2.1.Docs ∧ b7 z6 K' a_13 n_14 c_15 r.2.1.Entries ∧ d9 r.2.2.1.Kind ∧ r.2.2.1.Field.length ≤ maxLen ∧ b7 B8 K' a_19 n_20 c_21 r.2.2.1.Words ∧ d9 r.2.2.1.From ∧ d9 r.2.2.1.To ∧ b7 E4 K' a_25 n_26 c_27 r.2.2.1.Kids ∧ d9 r.2.2.2 := by
 rw [N1] at hm
 refine ci func42 rfl ntmps42 (sr (al E6 hS fun g5 w6 ai => ?_))
 have aj : SH _ _ _ _ _ [q8 g5 [V3 none 0 0, V3 none 0 0] 26] := ai
 refine al G0 aj fun g9 bo am => ?_
 have an : SH _ _ _ _ _ [q8 g9 [V3 none 0 0, V3 none 0 0] 46, _] := am
 refine al C3 an fun ao bp ap => ?_
 have Y : SH _ _ _ _ _ [q8 ao [V6 0, sv [], V3 none 0 0, V6 0, V6 0, V3 none 0 0] 42, _, _] := ap
 refine lv (L3 rfl) (nr (mv rfl ?_))
 obtain ⟨bq, aq, ar⟩ := ob hm
 refine lk b90 (a8m F Y.enter0 ag aq) ?_
 rintro br bs ⟨bu, bv, bx, bz, bA, rfl, au, aw, ax⟩
 have aa := (Y.c0 au).t4
 refine av rfl (nr (mv rfl ?_))
 obtain ⟨bB, ay, az⟩ := ob ar
 refine lk b94 (a6t F aa.e1 aw ax ay) ?_
 rintro bC bD ⟨k, l, m, o, q, s, x, y, B, C, D, G, bE, bF, bG, bH, rfl, aA, aB, aC, aD, aE, aF, aG⟩
 have aH := (aa.c1 aA).t7
 refine mv rfl (lv (B3 rfl rfl) (lv (B3 rfl rfl) (al E6 aH fun ab bI aI => ?_)))
 have aJ : SH _ _ _ _ _ [q8 ab [V3 none 0 0, V3 none 0 0] 26, _, _, _, _, _, _, _] := aI
 refine al G0 aJ fun ac bJ aK => ?_
 have aL : SH _ _ _ _ _ [q8 ac [V3 none 0 0, V3 none 0 0] 46, _, _, _, _, _, _, _, _] := aK
 refine lw [V3 k l m, V3 o q s] E6 aL.f1 fun bK aM => (lw [V3 x y B, V3 C D G] G0 aM.f1 fun bL aN => (nr (mv rfl ?_)))
 obtain ⟨d, aO, aP⟩ := ob az
 have ad := aN.f5
 refine lk b2J (a7b F ad.e1 aF aG (by decide : d9 3) aO) ?_
 rintro bM bN ⟨H, I, J, O, R, S, bO, bP, bQ, aQ, rfl, T, aR, aS, aT, aU, aV, aW, aX, aY⟩
 have aZ := (ad.c1 T).t11
 refine al C3 aZ fun ae bR ba => ?_
 have bb : SH _ _ _ _ _ [q8 ae [V6 0, sv [], V3 none 0 0, V6 0, V6 0, V3 none 0 0] 42, _, _, _, _, _, _, _, _, _, _, _] := ba
 refine lw [V6 d.1.Kind, sv d.1.Field, V3 H I J, V6 d.1.From, V6 d.1.To, V3 O R S] C3 bb fun bS bc => (ns ?_)
 have U := bc.drew
 refine wh1 (fun w' => E7 aQ w' ∧ y7 ab [V3 k l m, V3 o q s] w' ∧ y7 ac [V3 x y B, V3 C D G] w' ∧ y7 ae [V6 d.1.Kind, sv d.1.Field, V3 H I J, V6 d.1.From, V6 d.1.To, V3 O R S] w') (fun w' => True) 9 [] mixed ⟨U.hasK kr, U.hasObj m5, U.hasObj m4, U.hasObj m0⟩ (fun _ => trivial) (gh (fun _ h => B2 (ds := [V3 k l m, V3 o q s]) E6 rfl rfl rfl h.2.1) (gh (fun _ h => B2 (ds := [V3 x y B, V3 C D G]) G0 rfl rfl rfl h.2.2.1) (gh (fun _ h => B2 (ds := [V6 d.1.Kind, sv d.1.Field, V3 H I J, V6 d.1.From, V6 d.1.To, V3 O R S]) C3 rfl rfl rfl h.2.2.2) (gt (d6 rfl) (gn ?_)))))
 obtain ⟨bT, bd, be⟩ := ob aP
 have af := U.f3
 refine lk a2C (u7 F af.e1 aX aY (by decide : d9 9) bd) ?_
 rintro bU bV ⟨bW, bX, bY, bf, rfl, f, bg, bZ, ca⟩
 have V := (af.c1 f).t12
 refine d7 (qh ⟨V.hasK f.le, V.hasObj m5, V.hasObj m4, V.hasObj m1⟩ (fun _ => trivial) (gn ?_))
 have bh : SH _ _ _ _ _ [_, _, _, _, _, _, _, _, _, _, _, _] := SH.front (p := [_, _, _, _, _, _, _, _, _, _, _]) V
 refine lw [V3 k l m, V3 o q s] E6 bh fun cb W => (d7 (qh ⟨W.hasK f.le, W.hasObj m6, W.hasObj m5, W.hasObj m2⟩ (fun _ => trivial) (gn ?_)))
 have bi : SH _ _ _ _ _ [_, _, _, _, _, _, _, _, _, _, _, _] := SH.front (p := [_, _, _, _, _, _, _, _, _, _, _]) W
 refine lw [V3 x y B, V3 C D G] G0 bi fun cc X => (d7 (qh ⟨X.hasK f.le, X.hasObj m7, X.hasObj m6, X.hasObj m3⟩ (fun _ => trivial) (gn ?_)))
 have bj : SH _ _ _ _ _ [_, _, _, _, _, _, _, _, _, _, _, _] := SH.front (p := [_, _, _, _, _, _, _, _, _, _, _]) X
 refine lw [V6 d.1.Kind, sv d.1.Field, V3 H I J, V6 d.1.From, V6 d.1.To, V3 O R S] C3 bj fun cd i => (d7 (qh ⟨i.hasK f.le, i.hasObj m8, i.hasObj m7, i.hasObj m4⟩ (fun _ => trivial) (gt (r9 rfl) (gd' (j6 (i9 ?_))))))
 cases oi be
 have bk : SH _ _ _ _ _ [_, _, _, _, _, _, _, _, _, _, _, _] := SH.front (p := [_, _, _, _, _, _, _, _, _, _, _]) i.f6.f6
 have bl : SH _ _ _ _ _ [_, _, _, _, _, _, _, _, _, _, _, _] := SH.front (p := [_, _, _, _, _, _, _, _, _, _, _]) bk
 have bm : SH _ _ _ _ _ [_, _, _, _, _, _, _, _, _, _, _, _] := SH.front (p := [_, _, _, _, _, _, _, _, _, _, _]) bl
 exact R8 (vs := [_, _, _, _]) results42 ⟨⟨_, _, rfl, A8 E6 (cs := [V3 k l m, V3 o q s]) (fun j c e => by rw [Nat.zero_add, i.mem_obj m2]; exact e) (.inl ⟨rfl, rfl, rfl⟩)⟩, ⟨_, _, rfl, A8 G0 (cs := [V3 x y B, V3 C D G]) (fun j c e => by rw [Nat.zero_add, i.mem_obj m1]; exact e) (.inl ⟨rfl, rfl, rfl⟩)⟩, ⟨_, _, rfl, A8 C3 (cs := [V6 d.1.Kind, sv d.1.Field, V3 H I J, V6 d.1.From, V6 d.1.To, V3 O R S]) (fun j c e => by rw [Nat.zero_add, i.mem_obj m0]; exact e) (.inl ⟨rfl, rfl, rfl⟩)⟩, rfl, trivial⟩ ⟨k, l, m, o, q, s, x, y, B, C, D, G, H, I, J, O, R, S, bf, rfl, bm.s, (aB.mono (T.le.trans f.le)), (aC.mono (T.le.trans f.le)), (aD.mono (T.le.trans f.le)), (aE.mono (T.le.trans f.le)), aR, aS, (aT.mono f.le), aU, aV, (aW.mono f.le), bg⟩

theorem a7C {q0 : List UInt8} {q1 : List UInt8} {r : Bool} (hS : SH w K [] w K []) (bq : b7 tU8 K A a b q0) (br : b7 tU8 K B c d q1) (hG10 : a9O O3 1 f U1 w) (hD : ¬ dr.D) (hm : a1S F q0 q1 = some r) :
  Calls prog 8 #[V3 A a b, V3 B c d] w (R_b w K r) := by
 rw [a1S] at hm
 refine ci func8 rfl ntmps8 (sr (lv (M7 rfl) (ns (k8 ?_))))
 obtain ⟨bE, bF, bG⟩ := ob hm
 refine j4 (IV w K [] K [(0, V3 A a b), (1, V3 B c d), (24, .bool bE)] []) ?_ ?_
 ·refine i7 (mv rfl (lv (k9 underlying22 rfl bq) (lv (E5 rfl rfl) (mv rfl (bt bF (fun aq aY => ?_) (fun aq aY => ?_))))))
  ·refine lu aq (lu aq (lu aq (lv (K5 rfl aq rfl) (d7 ?_))))
   cases oi aY
   exact qd ⟨K, rfl, hS, kr⟩
  refine lg aq (d6 rfl) (lg aq (k9 underlying22 rfl br) (lg aq (E5 rfl rfl) (lv (j9 rfl aq rfl) (d7 ?_))))
  cases oi aY
  exact qd ⟨K, rfl, hS, kr⟩
 rintro _ dy ⟨bH, rfl, aZ, bs⟩
 refine j6 (B5 bG rfl (fun bI ba => ?_) (fun bI ba => ?_))
 ·refine sr (lv (r_t rfl) (nq (rr ?_)))
  cases oi ba
  exact ey results8 ⟨bH, rfl, aZ⟩
 refine i6 (qr (mv rfl ?_))
 obtain ⟨i, bJ, bK⟩ := ob ba
 refine lk b9D (a2I F aZ.enter0 (bq.mono bs) bJ) ?_
 rintro dz dA ⟨R, S, T, U, V, W, X, Y, aa, ab, ac, ad, C, D, G, H, I, J, dB, rfl, bu, ar, au, aw, ax, aH, aI, aJ, aK, aL, aM, aC⟩
 have bL := (aZ.c0 bu).t5
 refine mv rfl (lv (B3 rfl rfl) (lv (B3 rfl rfl) (lv (B3 rfl rfl) (lv (B3 rfl rfl) (al E6 bL fun bb dC bM => ?_)))))
 have bN : SH _ _ _ _ _ [q8 bb [V3 none 0 0, V3 none 0 0] 26, _, _, _, _, _] := bM
 refine al G0 bN fun bc u6 bO => ?_
 have bP : SH _ _ _ _ _ [q8 bc [V3 none 0 0, V3 none 0 0] 46, _, _, _, _, _, _] := bO
 refine al C3 bP fun bd dD bQ => ?_
 have bR : SH _ _ _ _ _ [q8 bd [V6 0, sv [], V3 none 0 0, V6 0, V6 0, V3 none 0 0] 42, _, _, _, _, _, _, _] := bQ
 refine lw [V3 R S T, V3 U V W] E6 bR.f2 fun dE bS => (lw [V3 X Y aa, V3 ab ac ad] G0 bS.f2 fun dF bT => (lw [V6 i.2.2.1.Kind, sv i.2.2.1.Field, V3 C D G, V6 i.2.2.1.From, V6 i.2.2.1.To, V3 H I J] C3 bT.f2 fun dG bv => (av rfl (nr (mv rfl ?_)))))
 obtain ⟨k, bU, bV⟩ := ob bK
 refine lk b9D (a2I F bv.enter0 (br.mono (bs.trans bu.le)) bU) ?_
 rintro dH dI ⟨bW, bX, bY, bZ, ca, cb, cc, cd, ce, cf, cg, ch, af, ag, ah, ai, aj, ak, dJ, rfl, m, dK, dL, dM, dN, aS, aT, aU, aV, aW, aX, dO⟩
 have cj : SH _ _ _ _ _ [_, _, _, _, _, _, _, _, _, _, _, _, _] := SH.call0 bv m
 refine mv rfl (lv (B3 rfl rfl) (lv (B3 rfl rfl) (lv (B3 rfl rfl) (lv (B3 rfl rfl) (al E6 cj fun ck dP cl => ?_)))))
 have cm : SH _ _ _ _ _ [q8 ck [V3 none 0 0, V3 none 0 0] 26, _, _, _, _, _, _, _, _, _, _, _, _, _] := cl
 refine al G0 cm fun cn dQ cp => ?_
 have cq : SH _ _ _ _ _ [q8 cn [V3 none 0 0, V3 none 0 0] 46, _, _, _, _, _, _, _, _, _, _, _, _, _, _] := cp
 refine al C3 cq fun be dR cr => ?_
 have ct : SH _ _ _ _ _ [q8 be [V6 0, sv [], V3 none 0 0, V6 0, V6 0, V3 none 0 0] 42, _, _, _, _, _, _, _, _, _, _, _, _, _, _, _] := cr
 refine lw [V3 bW bX bY, V3 bZ ca cb] E6 ct.f2 fun dS cu => (lw [V3 cc cd ce, V3 cf cg ch] G0 cu.f2 fun dT cv => (lw [V6 k.2.2.1.Kind, sv k.2.2.1.Field, V3 af ag ah, V6 k.2.2.1.From, V6 k.2.2.1.To, V3 ai aj ak] C3 cv.f2 fun dU aN => (av rfl (nr (lv (l3 (ds := [V3 R S T, V3 U V W]) E6 rfl m10 aN rfl rfl) (lv (l3 (ds := [V3 X Y aa, V3 ab ac ad]) G0 rfl m9 aN rfl rfl) (lv (l3 (ds := [V6 i.2.2.1.Kind, sv i.2.2.1.Field, V3 C D G, V6 i.2.2.1.From, V6 i.2.2.1.To, V3 H I J]) C3 rfl m8 aN rfl rfl) (mv rfl ?_))))))))
 obtain ⟨cw, cx, cy⟩ := ob bV
 refine lk b6t (a1t F aN.enter0 (ar.mono m.le) (au.mono m.le) (aw.mono m.le) (ax.mono m.le) aH aI (aJ.mono m.le) aK aL (aM.mono m.le) aC (hG10.keep aN) hD cx) ?_
 rintro dV dW ⟨dX, rfl, l, dY⟩
 have bf : SH _ _ _ _ _ [_, _, _, _, _, _, _, _, _, _, _, _, _, _, _, _] := SH.call0 aN l
 refine av rfl (nr (lv (l3 (ds := [V6 i.2.2.1.Kind, sv i.2.2.1.Field, V3 C D G, V6 i.2.2.1.From, V6 i.2.2.1.To, V3 H I J]) C3 rfl m8 bf rfl rfl) (lv (l3 (ds := [V6 k.2.2.1.Kind, sv k.2.2.1.Field, V3 af ag ah, V6 k.2.2.1.From, V6 k.2.2.1.To, V3 ai aj ak]) C3 rfl m0 bf rfl rfl) ?_)))
 refine J1 (t := E4) (n := 2) (pv := [(0, .agg #[V6 i.2.2.1.Kind, sv i.2.2.1.Field, V3 C D G, V6 i.2.2.1.From, V6 i.2.2.1.To, V3 H I J]), (1, .agg #[V6 k.2.2.1.Kind, sv k.2.2.1.Field, V3 af ag ah, V6 k.2.2.1.From, V6 k.2.2.1.To, V3 ai aj ak])]) (cs := [V6 i.2.2.1.Kind, sv i.2.2.1.Field, V3 C D G, V6 i.2.2.1.From, V6 i.2.2.1.To, V3 H I J, V6 k.2.2.1.Kind, sv k.2.2.1.Field, V3 af ag ah, V6 k.2.2.1.From, V6 k.2.2.1.To, V3 ai aj ak]) (xs := [i.2.2.1, k.2.2.1]) wn rfl underlying40 C3 rfl rfl rfl (by kernel_rfl) rfl rfl (M1 (u := .agg #[V6 i.2.2.1.Kind, sv i.2.2.1.Field, V3 C D G, V6 i.2.2.1.From, V6 i.2.2.1.To, V3 H I J]) (z := i.2.2.1) (J0 ⟨C, D, G, H, I, J, rfl, aH, aI, (aJ.mono (m.le.trans l.le)), aK, aL, (aM.mono (m.le.trans l.le))⟩) (M1 (u := .agg #[V6 k.2.2.1.Kind, sv k.2.2.1.Field, V3 af ag ah, V6 k.2.2.1.From, V6 k.2.2.1.To, V3 ai aj ak]) (z := k.2.2.1) (J0 ⟨af, ag, ah, ai, aj, ak, rfl, aS, aT, (aU.mono l.le), aV, aW, (aX.mono l.le)⟩) a2n)) bf ?_
 intro aD dZ cz o bx cA
 refine lv (A5 (cs := #[V6 9, sv [], V3 none 0 0, V6 0, V6 0, V3 aD 2 2]) a8q C3 rfl (by kernel_rfl)) (al C3 cA fun bg ea cB => ?_)
 have cC : SH _ _ _ _ _ [q8 bg [V6 0, sv [], V3 none 0 0, V6 0, V6 0, V3 none 0 0] 42, _, _, _, _, _, _, _, _, _, _, _, _, _, _, _, _, _] := cB
 refine ls [V6 9, sv [], V3 none 0 0, V6 0, V6 0, V3 aD 2 2] (.agg #[V6 9, sv [], V3 none 0 0, V6 0, V6 0, V3 aD 2 2]) C3 cC fun eb aO => (ns (k8 ?_))
 obtain ⟨cD, cE, cF⟩ := ob cy
 refine j4 (IV w K [] cz [(5, pt bb), (6, pt bc), (7, pt bd), (8, V6 i.2.2.2), (11, pt be), (13, V6 cw), (14, pt bg), (65, .bool cD)] [q8 bb [V3 R S T, V3 U V W] 26, q8 bc [V3 X Y aa, V3 ab ac ad] 46, q8 bd [V6 i.2.2.1.Kind, sv i.2.2.1.Field, V3 C D G, V6 i.2.2.1.From, V6 i.2.2.1.To, V3 H I J] 42, q8 be [V6 k.2.2.1.Kind, sv k.2.2.1.Field, V3 af ag ah, V6 k.2.2.1.From, V6 k.2.2.1.To, V3 ai aj ak] 42, q8 bg [V6 9, sv [], V3 none 0 0, V6 0, V6 0, V3 aD 2 2] 42]) ?_ ?_
 ·refine i7 (mv rfl (lv (l3 (ds := [V3 R S T, V3 U V W]) E6 rfl m12 aO rfl rfl) (lv (l3 (ds := [V3 X Y aa, V3 ab ac ad]) G0 rfl m11 aO rfl rfl) (lv (l3 (ds := [V6 i.2.2.1.Kind, sv i.2.2.1.Field, V3 C D G, V6 i.2.2.1.From, V6 i.2.2.1.To, V3 H I J]) C3 rfl m10 aO rfl rfl) (mv rfl ?_)))))
  obtain ⟨ec, cG, cH⟩ := ob cE
  refine lk b9C (a4j F aO.enter0 (ar.mono ((m.le.trans l.le).trans o)) (au.mono ((m.le.trans l.le).trans o)) (aw.mono ((m.le.trans l.le).trans o)) (ax.mono ((m.le.trans l.le).trans o)) aH aI (aJ.mono ((m.le.trans l.le).trans o)) aK aL (aM.mono ((m.le.trans l.le).trans o)) aC cG) ?_
  rintro ed ee ⟨cI, rfl, ay, ef⟩
  have aP : SH _ _ _ _ _ [_, _, _, _, _, _, _, _, _, _, _, _, _, _, _, _, _, _] := SH.call0 aO ay
  refine lv (W3 rfl rfl) (mv rfl (bt cH (fun az bh => ?_) (fun az bh => ?_)))
  ·refine lu az (lu az (lu az (lv (K5 rfl az rfl) (mv rfl (lu rfl (lu rfl (lu rfl (lu rfl (lv (K5 rfl rfl rfl) ?_)))))))))
   refine d7 ?_
   cases oi bh
   have cJ : SH _ _ _ _ _ [_, _, _, _, _, _, _, _, _, _, _, _, _, _, _, _, _, _] := SH.front (p := [_, _, _, _, _, _, _, _, _, _]) aP.f2
   have cK : SH _ _ _ _ _ [_, _, _, _, _, _, _, _, _, _, _, _, _, _, _, _, _, _] := SH.front (p := [_, _, _, _, _, _, _, _, _, _, _]) cJ
   have cL : SH _ _ _ _ _ [_, _, _, _, _, _, _, _, _, _, _, _, _, _, _, _, _, _] := SH.front (p := [_, _, _, _, _, _, _, _, _, _, _, _]) cK
   exact qd ⟨cI, rfl, cL.s, ay.le⟩
  refine lg az (l3 (ds := [V6 9, sv [], V3 none 0 0, V6 0, V6 0, V3 aD 2 2]) C3 rfl m0 aP rfl rfl) ?_
  obtain ⟨eg, cM, cN⟩ := ob bh
  refine x9 (wg rfl rfl az) rfl (x8 (vs := [.agg #[V6 9, sv [], V3 none 0 0, V6 0, V6 0, V3 aD 2 2]]) b9E rfl) ((a4h F (q0 := (r5.mk (9 : Int) ([] : k6) ([] : List k6) (0 : Int) (0 : Int) ([i.2.2.1, k.2.2.1] : List r5)))) aP.enter0 (by decide : d9 9) (by decide : ([] : k6).length ≤ maxLen) (b7.nil _ _) I0 I0 (bx.mono ay.le) (hG10.keep aP) cM) ?_
  rintro eh ei ⟨cO, rfl, aE⟩
  refine ⟨_, rfl, ?_⟩
  have aQ : SH _ _ _ _ _ [_, _, _, _, _, _, _, _, _, _, _, _, _, _, _, _, _, _] := SH.call0 aP aE
  refine lg az (y4 rfl) (lv (j9 rfl az rfl) (mv rfl (bt cN (fun ao bi => ?_) (fun ao bi => ?_))))
  ·refine lu ao (lu ao (lu ao (lu ao (lv (K5 rfl ao rfl) (d7 ?_)))))
   cases oi bi
   have cP : SH _ _ _ _ _ [_, _, _, _, _, _, _, _, _, _, _, _, _, _, _, _, _, _] := SH.front (p := [_, _, _, _, _, _, _, _, _, _]) aQ.f2
   have cQ : SH _ _ _ _ _ [_, _, _, _, _, _, _, _, _, _, _, _, _, _, _, _, _, _] := SH.front (p := [_, _, _, _, _, _, _, _, _, _, _]) cP
   have cR : SH _ _ _ _ _ [_, _, _, _, _, _, _, _, _, _, _, _, _, _, _, _, _, _] := SH.front (p := [_, _, _, _, _, _, _, _, _, _, _, _]) cQ
   exact qd ⟨cO, rfl, cR.s, (ay.le.trans aE.le)⟩
  refine lg ao (l3 (ds := [V3 R S T, V3 U V W]) E6 rfl m12 aQ rfl rfl) (lg ao (l3 (ds := [V3 X Y aa, V3 ab ac ad]) G0 rfl m11 aQ rfl rfl) ?_)
  obtain ⟨ej, cS, cT⟩ := ob bi
  refine x9 (wg rfl rfl ao) rfl (x8 (vs := [.agg #[V3 R S T, V3 U V W], .agg #[V3 X Y aa, V3 ab ac ad]]) b9x rfl) (a5B F aQ.enter0 (b7.mono ((((m.le.trans l.le).trans o).trans ay.le).trans aE.le) ar) (b7.mono ((((m.le.trans l.le).trans o).trans ay.le).trans aE.le) au) (b7.mono ((((m.le.trans l.le).trans o).trans ay.le).trans aE.le) aw) (b7.mono ((((m.le.trans l.le).trans o).trans ay.le).trans aE.le) ax) cS) ?_
  rintro ek el ⟨cU, rfl, bz⟩
  refine ⟨_, rfl, ?_⟩
  have cV : SH _ _ _ _ _ [_, _, _, _, _, _, _, _, _, _, _, _, _, _, _, _, _, _] := SH.call0 aQ bz
  refine lg ao (y4 rfl) (lv (j9 rfl ao rfl) (d7 ?_))
  cases oi cT
  have cW : SH _ _ _ _ _ [_, _, _, _, _, _, _, _, _, _, _, _, _, _, _, _, _, _] := SH.front (p := [_, _, _, _, _, _, _, _, _, _]) cV.f2
  have cX : SH _ _ _ _ _ [_, _, _, _, _, _, _, _, _, _, _, _, _, _, _, _, _, _] := SH.front (p := [_, _, _, _, _, _, _, _, _, _, _]) cW
  have cY : SH _ _ _ _ _ [_, _, _, _, _, _, _, _, _, _, _, _, _, _, _, _, _, _] := SH.front (p := [_, _, _, _, _, _, _, _, _, _, _, _]) cX
  exact qd ⟨cU, rfl, cY.s, ((ay.le.trans aE.le).trans bz.le)⟩
 rintro _ em ⟨en, rfl, ap, q⟩
 refine j6 (B5 cF rfl (fun cZ bj => ?_) (fun cZ bj => ?_))
 ·refine sr (mv rfl (lv (l3 (ds := [V3 R S T, V3 U V W]) E6 rfl m0 ap rfl rfl) (lv (l3 (ds := [V3 X Y aa, V3 ab ac ad]) G0 rfl m1 ap rfl rfl) (lv (l3 (ds := [V6 i.2.2.1.Kind, sv i.2.2.1.Field, V3 C D G, V6 i.2.2.1.From, V6 i.2.2.1.To, V3 H I J]) C3 rfl m2 ap rfl rfl) (mv rfl ?_)))))
  obtain ⟨eo, da, db⟩ := ob bj
  refine lk b9C (a4j F ap.enter0 (b7.mono (((m.le.trans l.le).trans o).trans q) ar) (b7.mono (((m.le.trans l.le).trans o).trans q) au) (b7.mono (((m.le.trans l.le).trans o).trans q) aw) (b7.mono (((m.le.trans l.le).trans o).trans q) ax) aH aI (b7.mono (((m.le.trans l.le).trans o).trans q) aJ) aK aL (b7.mono (((m.le.trans l.le).trans o).trans q) aM) aC da) ?_
  rintro ep eq ⟨dc, rfl, dd, es⟩
  have de := (ap.c0 dd).t5
  refine lv (u3 rfl rfl) (av rfl (nq (rr ?_)))
  cases oi db
  exact ey results8 ⟨dc, rfl, de.s⟩
 refine i6 (qr (lv (l3 (ds := [V3 R S T, V3 U V W]) E6 rfl m0 ap rfl rfl) (lv (l3 (ds := [V3 X Y aa, V3 ab ac ad]) G0 rfl m1 ap rfl rfl) (lv (l3 (ds := [V6 9, sv [], V3 none 0 0, V6 0, V6 0, V3 aD 2 2]) C3 rfl m4 ap rfl rfl) (mv rfl ?_)))))
 obtain ⟨et, df, dg⟩ := ob bj
 refine lk b6t ((a1t F (q2 := (r5.mk (9 : Int) ([] : k6) ([] : List k6) (0 : Int) (0 : Int) ([i.2.2.1, k.2.2.1] : List r5)))) ap.enter0 (b7.mono (((m.le.trans l.le).trans o).trans q) ar) (b7.mono (((m.le.trans l.le).trans o).trans q) au) (b7.mono (((m.le.trans l.le).trans o).trans q) aw) (b7.mono (((m.le.trans l.le).trans o).trans q) ax) (by decide : d9 9) (by decide : ([] : k6).length ≤ maxLen) (b7.nil _ _) I0 I0 (bx.mono q) aC (hG10.keep ap) hD df) ?_
 rintro eu ev ⟨ew, rfl, s, ex⟩
 have aR := (ap.c0 s).t5
 refine av rfl (nr (lv (l3 (ds := [V3 R S T, V3 U V W]) E6 rfl m0 aR rfl rfl) (lv (l3 (ds := [V3 X Y aa, V3 ab ac ad]) G0 rfl m1 aR rfl rfl) (lv (l3 (ds := [V6 i.2.2.1.Kind, sv i.2.2.1.Field, V3 C D G, V6 i.2.2.1.From, V6 i.2.2.1.To, V3 H I J]) C3 rfl m2 aR rfl rfl) (lv (l3 (ds := [V6 i.2.2.1.Kind, sv i.2.2.1.Field, V3 C D G, V6 i.2.2.1.From, V6 i.2.2.1.To, V3 H I J]) C3 rfl m2 aR rfl rfl) ?_)))))
 refine J1 (t := E4) (n := 2) (pv := [(0, .agg #[V6 i.2.2.1.Kind, sv i.2.2.1.Field, V3 C D G, V6 i.2.2.1.From, V6 i.2.2.1.To, V3 H I J]), (1, .agg #[V6 i.2.2.1.Kind, sv i.2.2.1.Field, V3 C D G, V6 i.2.2.1.From, V6 i.2.2.1.To, V3 H I J])]) (cs := [V6 i.2.2.1.Kind, sv i.2.2.1.Field, V3 C D G, V6 i.2.2.1.From, V6 i.2.2.1.To, V3 H I J, V6 i.2.2.1.Kind, sv i.2.2.1.Field, V3 C D G, V6 i.2.2.1.From, V6 i.2.2.1.To, V3 H I J]) (xs := [i.2.2.1, i.2.2.1]) wn rfl underlying40 C3 rfl rfl rfl (by kernel_rfl) rfl rfl (M1 (u := .agg #[V6 i.2.2.1.Kind, sv i.2.2.1.Field, V3 C D G, V6 i.2.2.1.From, V6 i.2.2.1.To, V3 H I J]) (z := i.2.2.1) (J0 ⟨C, D, G, H, I, J, rfl, aH, aI, (b7.mono ((((m.le.trans l.le).trans o).trans q).trans s.le) aJ), aK, aL, (b7.mono ((((m.le.trans l.le).trans o).trans q).trans s.le) aM)⟩) (M1 (u := .agg #[V6 i.2.2.1.Kind, sv i.2.2.1.Field, V3 C D G, V6 i.2.2.1.From, V6 i.2.2.1.To, V3 H I J]) (z := i.2.2.1) (J0 ⟨C, D, G, H, I, J, rfl, aH, aI, (b7.mono ((((m.le.trans l.le).trans o).trans q).trans s.le) aJ), aK, aL, (b7.mono ((((m.le.trans l.le).trans o).trans q).trans s.le) aM)⟩) a2n)) aR ?_
 intro dh eA eB y di bk
 refine lv (A5 (cs := #[V6 9, sv [], V3 none 0 0, V6 0, V6 0, V3 dh 2 2]) a8q C3 rfl (by kernel_rfl)) (mv rfl ?_)
 obtain ⟨eC, dj, dk⟩ := ob dg
 refine lk b6t ((a1t F (q2 := (r5.mk (9 : Int) ([] : k6) ([] : List k6) (0 : Int) (0 : Int) ([i.2.2.1, i.2.2.1] : List r5)))) bk.enter0 (b7.mono (((((m.le.trans l.le).trans o).trans q).trans s.le).trans y) ar) (b7.mono (((((m.le.trans l.le).trans o).trans q).trans s.le).trans y) au) (b7.mono (((((m.le.trans l.le).trans o).trans q).trans s.le).trans y) aw) (b7.mono (((((m.le.trans l.le).trans o).trans q).trans s.le).trans y) ax) (by decide : d9 9) (by decide : ([] : k6).length ≤ maxLen) (b7.nil _ _) I0 I0 di aC (hG10.keep bk) hD dj) ?_
 rintro eD eE ⟨dl, rfl, O, eF⟩
 have aF := (bk.c0 O).t6
 refine av rfl (nr (mv rfl (lv (u3 rfl rfl) (mv rfl (bt dk (fun x bl => ?_) (fun x bl => ?_))))))
 ·refine lg x (l3 (ds := [V3 R S T, V3 U V W]) E6 rfl m1 aF rfl rfl) (lg x (l3 (ds := [V3 X Y aa, V3 ab ac ad]) G0 rfl m2 aF rfl rfl) (lg x (l3 (ds := [V6 k.2.2.1.Kind, sv k.2.2.1.Field, V3 af ag ah, V6 k.2.2.1.From, V6 k.2.2.1.To, V3 ai aj ak]) C3 rfl m4 aF rfl rfl) (lg x (d6 rfl) ?_)))
  obtain ⟨eG, dm, dn⟩ := ob bl
  refine x9 (wg rfl rfl x) rfl (x8 (vs := [.agg #[V3 R S T, V3 U V W], .agg #[V3 X Y aa, V3 ab ac ad], .agg #[V6 k.2.2.1.Kind, sv k.2.2.1.Field, V3 af ag ah, V6 k.2.2.1.From, V6 k.2.2.1.To, V3 ai aj ak], V6 i.2.2.2]) b6t rfl) (a1t F aF.enter0 (b7.mono ((((((m.le.trans l.le).trans o).trans q).trans s.le).trans y).trans O.le) ar) (b7.mono ((((((m.le.trans l.le).trans o).trans q).trans s.le).trans y).trans O.le) au) (b7.mono ((((((m.le.trans l.le).trans o).trans q).trans s.le).trans y).trans O.le) aw) (b7.mono ((((((m.le.trans l.le).trans o).trans q).trans s.le).trans y).trans O.le) ax) aS aT (b7.mono (((((l.le.trans o).trans q).trans s.le).trans y).trans O.le) aU) aV aW (b7.mono (((((l.le.trans o).trans q).trans s.le).trans y).trans O.le) aX) aC (hG10.keep aF) hD dm) ?_
  rintro eH eI ⟨dp, rfl, am, eJ⟩
  refine ⟨_, rfl, ?_⟩
  have an := (aF.c0 am).t6
  refine lg x (E5 rfl rfl) (lg x (d6 rfl) (bt dn (fun aG bm => ?_) (fun aG bm => ?_)))
  ·refine lg aG (d6 rfl) (lg aG (u3 rfl rfl) (lg x (j3 rfl aG rfl) (lg x (d6 rfl) (bt bm (fun ae bn => ?_) (fun ae bn => ?_)))))
   ·iterate 7 refine lu ae ?_
    refine u1 (uu rfl rfl) rfl (u1 (uu rfl rfl) rfl (u1 (uu rfl rfl) rfl (lu ae (lg x (K5 rfl ae rfl) (lv (j3 rfl x rfl) (av rfl (nq (i9 ?_))))))))
    cases oi bn
    exact ey results8 ⟨dp, rfl, an.s⟩
   refine lg ae (l3 (ds := [V3 R S T, V3 U V W]) E6 rfl m1 an rfl rfl) (lg ae (l3 (ds := [V3 X Y aa, V3 ab ac ad]) G0 rfl m2 an rfl rfl) (lg ae (l3 (ds := [V6 k.2.2.1.Kind, sv k.2.2.1.Field, V3 af ag ah, V6 k.2.2.1.From, V6 k.2.2.1.To, V3 ai aj ak]) C3 rfl m4 an rfl rfl) (lg ae (d6 rfl) ?_)))
   obtain ⟨eK, dq, dt⟩ := ob bn
   refine x9 (wg rfl rfl ae) rfl (x8 (vs := [.agg #[V3 R S T, V3 U V W], .agg #[V3 X Y aa, V3 ab ac ad], .agg #[V6 k.2.2.1.Kind, sv k.2.2.1.Field, V3 af ag ah, V6 k.2.2.1.From, V6 k.2.2.1.To, V3 ai aj ak], V6 i.2.2.2]) b6t rfl) (a1t F an.enter0 (b7.mono (((((((m.le.trans l.le).trans o).trans q).trans s.le).trans y).trans O.le).trans am.le) ar) (b7.mono (((((((m.le.trans l.le).trans o).trans q).trans s.le).trans y).trans O.le).trans am.le) au) (b7.mono (((((((m.le.trans l.le).trans o).trans q).trans s.le).trans y).trans O.le).trans am.le) aw) (b7.mono (((((((m.le.trans l.le).trans o).trans q).trans s.le).trans y).trans O.le).trans am.le) ax) aS aT (b7.mono ((((((l.le.trans o).trans q).trans s.le).trans y).trans O.le).trans am.le) aU) aV aW (b7.mono ((((((l.le.trans o).trans q).trans s.le).trans y).trans O.le).trans am.le) aX) aC (hG10.keep an) hD dq) ?_
   rintro eL eM ⟨bA, rfl, du, eN⟩
   refine ⟨_, rfl, ?_⟩
   have bB := (an.c0 du).t6
   refine lg ae (u3 rfl rfl) (lg ae (d6 rfl) (bt dt (fun aA bo => ?_) (fun aA bo => ?_)))
   ·refine lg aA (d6 rfl) (lg aA (d6 rfl) (lg aA (u3 rfl rfl) (lg ae (j3 rfl aA rfl) (lg x (j9 rfl ae rfl) (lv (j3 rfl x rfl) (av rfl (nq (i9 ?_))))))))
    cases oi bo
    exact ey results8 ⟨bA, rfl, bB.s⟩
   refine lu aA (lu aA (lu aA (lg ae (F7 rfl aA rfl) (lg x (j9 rfl ae rfl) (lv (j3 rfl x rfl) (av rfl (nq (i9 ?_))))))))
   cases oi bo
   exact ey results8 ⟨bA, rfl, bB.s⟩
  refine lu aG (lu aG (lg x (F7 rfl aG rfl) (lg x (d6 rfl) (lg rfl (l3 (ds := [V3 R S T, V3 U V W]) E6 rfl m1 an rfl rfl) (lg rfl (l3 (ds := [V3 X Y aa, V3 ab ac ad]) G0 rfl m2 an rfl rfl) (lg rfl (l3 (ds := [V6 k.2.2.1.Kind, sv k.2.2.1.Field, V3 af ag ah, V6 k.2.2.1.From, V6 k.2.2.1.To, V3 ai aj ak]) C3 rfl m4 an rfl rfl) (lg rfl (d6 rfl) ?_)))))))
  obtain ⟨eO, dv, dw⟩ := ob bm
  refine x9 (wg rfl rfl rfl) rfl (x8 (vs := [.agg #[V3 R S T, V3 U V W], .agg #[V3 X Y aa, V3 ab ac ad], .agg #[V6 k.2.2.1.Kind, sv k.2.2.1.Field, V3 af ag ah, V6 k.2.2.1.From, V6 k.2.2.1.To, V3 ai aj ak], V6 i.2.2.2]) b6t rfl) (a1t F an.enter0 (b7.mono (((((((m.le.trans l.le).trans o).trans q).trans s.le).trans y).trans O.le).trans am.le) ar) (b7.mono (((((((m.le.trans l.le).trans o).trans q).trans s.le).trans y).trans O.le).trans am.le) au) (b7.mono (((((((m.le.trans l.le).trans o).trans q).trans s.le).trans y).trans O.le).trans am.le) aw) (b7.mono (((((((m.le.trans l.le).trans o).trans q).trans s.le).trans y).trans O.le).trans am.le) ax) aS aT (b7.mono ((((((l.le.trans o).trans q).trans s.le).trans y).trans O.le).trans am.le) aU) aV aW (b7.mono ((((((l.le.trans o).trans q).trans s.le).trans y).trans O.le).trans am.le) aX) aC (hG10.keep an) hD dv) ?_
  rintro eP eQ ⟨bC, rfl, dx, eR⟩
  refine ⟨_, rfl, ?_⟩
  have bD := (an.c0 dx).t6
  refine lg rfl (u3 rfl rfl) (lg rfl (d6 rfl) (bt dw (fun aB bp => ?_) (fun aB bp => ?_)))
  ·refine lg aB (d6 rfl) (lg aB (d6 rfl) (lg aB (u3 rfl rfl) (lg rfl (j3 rfl aB rfl) (lg x (j9 rfl rfl rfl) (lv (j3 rfl x rfl) (av rfl (nq (i9 ?_))))))))
   cases oi bp
   exact ey results8 ⟨bC, rfl, bD.s⟩
  refine lu aB (lu aB (lu aB (lg rfl (F7 rfl aB rfl) (lg x (j9 rfl rfl rfl) (lv (j3 rfl x rfl) (av rfl (nq (i9 ?_))))))))
  cases oi bp
  exact ey results8 ⟨bC, rfl, bD.s⟩
 iterate 7 refine lu x ?_
 refine u1 (uu rfl rfl) rfl (u1 (uu rfl rfl) rfl (lu x (lu x (u1 (uu rfl rfl) rfl (u1 (uu rfl rfl) rfl (u1 (uu rfl rfl) rfl (u1 (uu rfl rfl) rfl (u1 (uu rfl rfl) rfl (u1 (uu rfl rfl) rfl ?_)))))))))
 refine u1 (uu rfl rfl) rfl (u1 (uu rfl rfl) rfl (u1 (uu rfl rfl) rfl (u1 (uu rfl rfl) rfl (u1 (uu rfl rfl) rfl (lu x (lv (F7 rfl x rfl) (av rfl (nq (i9 ?_)))))))))
 cases oi bl
 exact ey results8 ⟨dl, rfl, aF.s⟩
end Go.Proofs.YtmkhlppjphodfaaGreatDoor
