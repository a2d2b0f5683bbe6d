/-
 Walks of the functions. Printed by gen.py.
-/
import Derived.Test.YtmkhlppjphodfaaGreatDoorModelL
import Derived.Test.YtmkhlppjphodfaaGreatDoorWalkA0
import Derived.Test.YtmkhlppjphodfaaGreatDoorWalkA3
import Derived.Test.YtmkhlppjphodfaaGreatDoorWalkA4
import Derived.Test.YtmkhlppjphodfaaGreatDoorWalkA5
set_option linter.unusedVariables false
set_option linter.unusedSectionVars false
set_option maxRecDepth 100000
namespace Go.Proofs.YtmkhlppjphodfaaGreatDoor
set_option maxHeartbeats 4000000
open Go Go.Fk Go.RowKit Tryz
variable (F : Nat) {w : World} {K : C5} {Z : List Nat} {g1 g2 g3 : Nat} {A B C D G H I J O R S T : Option Addr} {a b c d f i k l m n o p q s v x y aa ab ac ad ae af ag : Nat}
variable [dr : Dr]

theorem a2I {q0 : List UInt8} {r : q9 × z2 × r5 × Int} (hS : SH w K [] w K []) (ag : b7 tU8 K A a b q0) (hm : N1 F q0 = some r) :
  Calls prog 42 #[V3 A a b] w fun e w' => ∃ a_1 n_2 c_3 a_5 n_6 c_7 a_9 n_10 c_11 a_13 n_14 c_15 a_19 n_20 c_21 a_25 n_26 c_27 K', e = .returned (.tuple #[.agg #[V3 a_1 n_2 c_3, V3 a_5 n_6 c_7], .agg #[V3 a_9 n_10 c_11, V3 a_13 n_14 c_15], .agg #[V6 r.2.2.1.Kind, sv r.2.2.1.Field, V3 a_19 n_20 c_21, V6 r.2.2.1.From, V6 r.2.2.1.To, V3 a_25 n_26 c_27], V6 r.2.2.2]) ∧ SH w K [] w' K' [tail (V3 a_1 n_2 c_3) 9 1, tail (V3 a_5 n_6 c_7) 96 2, tail (V3 a_13 n_14 c_15) 112 3, tail (V3 a_19 n_20 c_21) 9 1, tail (V3 a_25 n_26 c_27) 42 6] ∧ b7 B8 K' a_1 n_2 c_3 r.1.Stops ∧ b7 I4 K' a_5 n_6 c_7 r.1.Syns ∧ b7 E1 K' a_9 n_10 c_11 r.2.1.Docs ∧ b7 z6 K' a_13 n_14 c_15 r.2.1.Entries ∧ d9 r.2.2.1.Kind ∧ r.2.2.1.Field.length ≤ maxLen ∧ b7 B8 K' a_19 n_20 c_21 r.2.2.1.Words ∧ d9 r.2.2.1.From ∧ d9 r.2.2.1.To ∧ b7 E4 K' a_25 n_26 c_27 r.2.2.1.Kids ∧ d9 r.2.2.2 := by
 rw [N1] at hm
 refine ci func42 rfl ntmps42 (sr (al E6 hS fun g5 w6 ai => ?_))
 have aj : SH _ _ _ _ _ [q8 g5 [V3 none 0 0, V3 none 0 0] 26] := ai
 refine al G0 aj fun g9 bo am => ?_
 have an : SH _ _ _ _ _ [q8 g9 [V3 none 0 0, V3 none 0 0] 46, _] := am
 refine al C3 an fun ao bp ap => ?_
 have Y : SH _ _ _ _ _ [q8 ao [V6 0, sv [], V3 none 0 0, V6 0, V6 0, V3 none 0 0] 42, _, _] := ap
 refine lv (L3 rfl) (nr (mv rfl ?_))
 obtain ⟨bq, aq, ar⟩ := ob hm
 refine lk b90 (a8m F Y.enter0 ag aq) ?_
 rintro br bs ⟨bu, bv, bx, bz, bA, rfl, au, aw, ax⟩
 have aa := (Y.c0 au).t4
 refine av rfl (nr (mv rfl ?_))
 obtain ⟨bB, ay, az⟩ := ob ar
 refine lk b94 (a6t F aa.e1 aw ax ay) ?_
 rintro bC bD ⟨k, l, m, o, q, s, x, y, B, C, D, G, bE, bF, bG, bH, rfl, aA, aB, aC, aD, aE, aF, aG⟩
 have aH := (aa.c1 aA).t7
 refine mv rfl (lv (B3 rfl rfl) (lv (B3 rfl rfl) (al E6 aH fun ab bI aI => ?_)))
 have aJ : SH _ _ _ _ _ [q8 ab [V3 none 0 0, V3 none 0 0] 26, _, _, _, _, _, _, _] := aI
 refine al G0 aJ fun ac bJ aK => ?_
 have aL : SH _ _ _ _ _ [q8 ac [V3 none 0 0, V3 none 0 0] 46, _, _, _, _, _, _, _, _] := aK
 refine lw [V3 k l m, V3 o q s] E6 aL.f1 fun bK aM => (lw [V3 x y B, V3 C D G] G0 aM.f1 fun bL aN => (nr (mv rfl ?_)))
 obtain ⟨d, aO, aP⟩ := ob az
 have ad := aN.f5
 refine lk b2J (a7b F ad.e1 aF aG (by decide : d9 3) aO) ?_
 rintro bM bN ⟨H, I, J, O, R, S, bO, bP, bQ, aQ, rfl, T, aR, aS, aT, aU, aV, aW, aX, aY⟩
 have aZ := (ad.c1 T).t11
 refine al C3 aZ fun ae bR ba => ?_
 have bb : SH _ _ _ _ _ [q8 ae [V6 0, sv [], V3 none 0 0, V6 0, V6 0, V3 none 0 0] 42, _, _, _, _, _, _, _, _, _, _, _] := ba
 refine lw [V6 d.1.Kind, sv d.1.Field, V3 H I J, V6 d.1.From, V6 d.1.To, V3 O R S] C3 bb fun bS bc => (ns ?_)
 have U := bc.drew
 refine wh1 (fun w' => E7 aQ w' ∧ y7 ab [V3 k l m, V3 o q s] w' ∧ y7 ac [V3 x y B, V3 C D G] w' ∧ y7 ae [V6 d.1.Kind, sv d.1.Field, V3 H I J, V6 d.1.From, V6 d.1.To, V3 O R S] w') (fun w' => True) 9 [] mixed ⟨U.hasK kr, U.hasObj m5, U.hasObj m4, U.hasObj m0⟩ (fun _ => trivial) (gh (fun _ h => B2 (ds := [V3 k l m, V3 o q s]) E6 rfl rfl rfl h.2.1) (gh (fun _ h => B2 (ds := [V3 x y B, V3 C D G]) G0 rfl rfl rfl h.2.2.1) (gh (fun _ h => B2 (ds := [V6 d.1.Kind, sv d.1.Field, V3 H I J, V6 d.1.From, V6 d.1.To, V3 O R S]) C3 rfl rfl rfl h.2.2.2) (gt (d6 rfl) (gn ?_)))))
 obtain ⟨bT, bd, be⟩ := ob aP
 have af := U.f3
 refine lk a2C (u7 F af.e1 aX aY (by decide : d9 9) bd) ?_
 rintro bU bV ⟨bW, bX, bY, bf, rfl, f, bg, bZ, ca⟩
 have V := (af.c1 f).t12
 refine d7 (qh ⟨V.hasK f.le, V.hasObj m5, V.hasObj m4, V.hasObj m1⟩ (fun _ => trivial) (gn ?_))
 have bh : SH _ _ _ _ _ [_, _, _, _, _, _, _, _, _, _, _, _] := SH.front (p := [_, _, _, _, _, _, _, _, _, _, _]) V
 refine lw [V3 k l m, V3 o q s] E6 bh fun cb W => (d7 (qh ⟨W.hasK f.le, W.hasObj m6, W.hasObj m5, W.hasObj m2⟩ (fun _ => trivial) (gn ?_)))
 have bi : SH _ _ _ _ _ [_, _, _, _, _, _, _, _, _, _, _, _] := SH.front (p := [_, _, _, _, _, _, _, _, _, _, _]) W
 refine lw [V3 x y B, V3 C D G] G0 bi fun cc X => (d7 (qh ⟨X.hasK f.le, X.hasObj m7, X.hasObj m6, X.hasObj m3⟩ (fun _ => trivial) (gn ?_)))
 have bj : SH _ _ _ _ _ [_, _, _, _, _, _, _, _, _, _, _, _] := SH.front (p := [_, _, _, _, _, _, _, _, _, _, _]) X
 refine lw [V6 d.1.Kind, sv d.1.Field, V3 H I J, V6 d.1.From, V6 d.1.To, V3 O R S] C3 bj fun cd i => (d7 (qh ⟨i.hasK f.le, i.hasObj m8, i.hasObj m7, i.hasObj m4⟩ (fun _ => trivial) (gt (r9 rfl) (gd' (j6 (i9 ?_))))))
 cases oi be
 have bk : SH _ _ _ _ _ [_, _, _, _, _, _, _, _, _, _, _, _] := SH.front (p := [_, _, _, _, _, _, _, _, _, _, _]) i.f6.f6
 have bl : SH _ _ _ _ _ [_, _, _, _, _, _, _, _, _, _, _, _] := SH.front (p := [_, _, _, _, _, _, _, _, _, _, _]) bk
 have bm : SH _ _ _ _ _ [_, _, _, _, _, _, _, _, _, _, _, _] := SH.front (p := [_, _, _, _, _, _, _, _, _, _, _]) bl
 exact R8 (vs := [_, _, _, _]) results42 ⟨⟨_, _, rfl, A8 E6 (cs := [V3 k l m, V3 o q s]) (fun j c e => by rw [Nat.zero_add, i.mem_obj m2]; exact e) (.inl ⟨rfl, rfl, rfl⟩)⟩, ⟨_, _, rfl, A8 G0 (cs := [V3 x y B, V3 C D G]) (fun j c e => by rw [Nat.zero_add, i.mem_obj m1]; exact e) (.inl ⟨rfl, rfl, rfl⟩)⟩, ⟨_, _, rfl, A8 C3 (cs := [V6 d.1.Kind, sv d.1.Field, V3 H I J, V6 d.1.From, V6 d.1.To, V3 O R S]) (fun j c e => by rw [Nat.zero_add, i.mem_obj m0]; exact e) (.inl ⟨rfl, rfl, rfl⟩)⟩, rfl, trivial⟩ ⟨k, l, m, o, q, s, x, y, B, C, D, G, H, I, J, O, R, S, bf, rfl, bm.s, (aB.mono (T.le.trans f.le)), (aC.mono (T.le.trans f.le)), (aD.mono (T.le.trans f.le)), (aE.mono (T.le.trans f.le)), aR, aS, (aT.mono f.le), aU, aV, (aW.mono f.le), bg⟩

theorem a84 {q0 : List UInt8} {q1 : List UInt8} {r : Bool} (hS : SH w K [] w K []) (bh : b7 tU8 K A a b q0) (bi : b7 tU8 K B c d q1) (hG10 : a9O O3 1 f U1 w) (hD : ¬ dr.D) (hm : a2p F q0 q1 = some r) :
  Calls prog 9 #[V3 A a b, V3 B c d] w (R_b w K r) := by
 rw [a2p] at hm
 refine ci func9 rfl ntmps9 (sr (lv (M7 rfl) (ns (k8 ?_))))
 obtain ⟨bo, bp, bq⟩ := ob hm
 refine j4 (IV w K [] K [(0, V3 A a b), (1, V3 B c d), (24, .bool bo)] []) ?_ ?_
 ·refine i7 (mv rfl (lv (k9 underlying22 rfl bh) (lv (E5 rfl rfl) (mv rfl (bt bp (fun ak aO => ?_) (fun ak aO => ?_))))))
  ·refine lu ak (lu ak (lu ak (lv (K5 rfl ak rfl) (d7 ?_))))
   cases oi aO
   exact qd ⟨K, rfl, hS, kr⟩
  refine lg ak (d6 rfl) (lg ak (k9 underlying22 rfl bi) (lg ak (E5 rfl rfl) (lv (j9 rfl ak rfl) (d7 ?_))))
  cases oi aO
  exact qd ⟨K, rfl, hS, kr⟩
 rintro _ dh ⟨br, rfl, aP, bj⟩
 refine j6 (B5 bq rfl (fun bs aQ => ?_) (fun bs aQ => ?_))
 ·refine sr (lv (r_t rfl) (nq (rr ?_)))
  cases oi aQ
  exact ey results9 ⟨br, rfl, aP⟩
 refine i6 (qr (mv rfl ?_))
 obtain ⟨i, bu, bv⟩ := ob aQ
 refine lk b9D (a2I F aP.enter0 (bh.mono bj) bu) ?_
 rintro di dj ⟨V, W, X, Y, aa, ab, ac, ad, ae, af, ag, ah, s, x, y, C, D, G, dk, rfl, bk, ap, aq, ar, au, aE, aF, aG, aH, aI, aJ, az⟩
 have bx := (aP.c0 bk).t5
 refine mv rfl (lv (B3 rfl rfl) (lv (B3 rfl rfl) (lv (B3 rfl rfl) (lv (B3 rfl rfl) (al E6 bx fun aR dl bz => ?_)))))
 have bA : SH _ _ _ _ _ [q8 aR [V3 none 0 0, V3 none 0 0] 26, _, _, _, _, _] := bz
 refine al G0 bA fun aS u6 bB => ?_
 have bC : SH _ _ _ _ _ [q8 aS [V3 none 0 0, V3 none 0 0] 46, _, _, _, _, _, _] := bB
 refine al C3 bC fun aT dm bD => ?_
 have bE : SH _ _ _ _ _ [q8 aT [V6 0, sv [], V3 none 0 0, V6 0, V6 0, V3 none 0 0] 42, _, _, _, _, _, _, _] := bD
 refine lw [V3 V W X, V3 Y aa ab] E6 bE.f2 fun dn bF => (lw [V3 ac ad ae, V3 af ag ah] G0 bF.f2 fun dp bG => (lw [V6 i.2.2.1.Kind, sv i.2.2.1.Field, V3 s x y, V6 i.2.2.1.From, V6 i.2.2.1.To, V3 C D G] C3 bG.f2 fun dq bl => (av rfl (nr (mv rfl ?_)))))
 obtain ⟨k, bH, bI⟩ := ob bv
 refine lk b9D (a2I F bl.enter0 (bi.mono (bj.trans bk.le)) bH) ?_
 rintro dt du ⟨bJ, bK, bL, bM, bN, bO, bP, bQ, bR, bS, bT, bU, I, J, O, R, S, T, dv, rfl, l, dw, dx, dy, dz, aU, aV, aW, aX, aY, aZ, dA⟩
 have bV : SH _ _ _ _ _ [_, _, _, _, _, _, _, _, _, _, _, _, _] := SH.call0 bl l
 refine mv rfl (lv (B3 rfl rfl) (lv (B3 rfl rfl) (lv (B3 rfl rfl) (lv (B3 rfl rfl) (al E6 bV fun bW dB bX => ?_)))))
 have bY : SH _ _ _ _ _ [q8 bW [V3 none 0 0, V3 none 0 0] 26, _, _, _, _, _, _, _, _, _, _, _, _, _] := bX
 refine al G0 bY fun bZ dC ca => ?_
 have cb : SH _ _ _ _ _ [q8 bZ [V3 none 0 0, V3 none 0 0] 46, _, _, _, _, _, _, _, _, _, _, _, _, _, _] := ca
 refine al C3 cb fun ba dD cc => ?_
 have cd : SH _ _ _ _ _ [q8 ba [V6 0, sv [], V3 none 0 0, V6 0, V6 0, V3 none 0 0] 42, _, _, _, _, _, _, _, _, _, _, _, _, _, _, _] := cc
 refine lw [V3 bJ bK bL, V3 bM bN bO] E6 cd.f2 fun dE ce => (lw [V3 bP bQ bR, V3 bS bT bU] G0 ce.f2 fun dF cf => (lw [V6 k.2.2.1.Kind, sv k.2.2.1.Field, V3 I J O, V6 k.2.2.1.From, V6 k.2.2.1.To, V3 R S T] C3 cf.f2 fun dG aA => (av rfl (nr (lv (l3 (ds := [V3 V W X, V3 Y aa ab]) E6 rfl m10 aA rfl rfl) (lv (l3 (ds := [V3 ac ad ae, V3 af ag ah]) G0 rfl m9 aA rfl rfl) (lv (l3 (ds := [V6 i.2.2.1.Kind, sv i.2.2.1.Field, V3 s x y, V6 i.2.2.1.From, V6 i.2.2.1.To, V3 C D G]) C3 rfl m8 aA rfl rfl) (mv rfl ?_))))))))
 obtain ⟨cg, ch, cj⟩ := ob bI
 refine lk b6t (a1t F aA.enter0 (ap.mono l.le) (aq.mono l.le) (ar.mono l.le) (au.mono l.le) aE aF (aG.mono l.le) aH aI (aJ.mono l.le) az (hG10.keep aA) hD ch) ?_
 rintro dH dI ⟨dJ, rfl, m, dK⟩
 have bb : SH _ _ _ _ _ [_, _, _, _, _, _, _, _, _, _, _, _, _, _, _, _] := SH.call0 aA m
 refine av rfl (nr (lv (l3 (ds := [V6 i.2.2.1.Kind, sv i.2.2.1.Field, V3 s x y, V6 i.2.2.1.From, V6 i.2.2.1.To, V3 C D G]) C3 rfl m8 bb rfl rfl) (lv (l3 (ds := [V6 k.2.2.1.Kind, sv k.2.2.1.Field, V3 I J O, V6 k.2.2.1.From, V6 k.2.2.1.To, V3 R S T]) C3 rfl m0 bb rfl rfl) ?_)))
 refine J1 (t := E4) (n := 2) (pv := [(0, .agg #[V6 i.2.2.1.Kind, sv i.2.2.1.Field, V3 s x y, V6 i.2.2.1.From, V6 i.2.2.1.To, V3 C D G]), (1, .agg #[V6 k.2.2.1.Kind, sv k.2.2.1.Field, V3 I J O, V6 k.2.2.1.From, V6 k.2.2.1.To, V3 R S T])]) (cs := [V6 i.2.2.1.Kind, sv i.2.2.1.Field, V3 s x y, V6 i.2.2.1.From, V6 i.2.2.1.To, V3 C D G, V6 k.2.2.1.Kind, sv k.2.2.1.Field, V3 I J O, V6 k.2.2.1.From, V6 k.2.2.1.To, V3 R S T]) (xs := [i.2.2.1, k.2.2.1]) wn rfl underlying40 C3 rfl rfl rfl (by kernel_rfl) rfl rfl (M1 (u := .agg #[V6 i.2.2.1.Kind, sv i.2.2.1.Field, V3 s x y, V6 i.2.2.1.From, V6 i.2.2.1.To, V3 C D G]) (z := i.2.2.1) (J0 ⟨s, x, y, C, D, G, rfl, aE, aF, (aG.mono (l.le.trans m.le)), aH, aI, (aJ.mono (l.le.trans m.le))⟩) (M1 (u := .agg #[V6 k.2.2.1.Kind, sv k.2.2.1.Field, V3 I J O, V6 k.2.2.1.From, V6 k.2.2.1.To, V3 R S T]) (z := k.2.2.1) (J0 ⟨I, J, O, R, S, T, rfl, aU, aV, (aW.mono m.le), aX, aY, (aZ.mono m.le)⟩) a2n)) bb ?_
 intro aw dL ck o bm cl
 refine lv (A5 (cs := #[V6 8, sv [], V3 none 0 0, V6 0, V6 0, V3 aw 2 2]) a8q C3 rfl (by kernel_rfl)) (al C3 cl fun bc dM cm => ?_)
 have cn : SH _ _ _ _ _ [q8 bc [V6 0, sv [], V3 none 0 0, V6 0, V6 0, V3 none 0 0] 42, _, _, _, _, _, _, _, _, _, _, _, _, _, _, _, _, _] := cm
 refine ls [V6 8, sv [], V3 none 0 0, V6 0, V6 0, V3 aw 2 2] (.agg #[V6 8, sv [], V3 none 0 0, V6 0, V6 0, V3 aw 2 2]) C3 cn fun dN aK => (ns (k8 ?_))
 obtain ⟨cp, cq, cr⟩ := ob cj
 refine j4 (IV w K [] ck [(5, pt aR), (6, pt aS), (7, pt aT), (8, V6 i.2.2.2), (11, pt ba), (13, V6 cg), (14, pt bc), (65, .bool cp)] [q8 aR [V3 V W X, V3 Y aa ab] 26, q8 aS [V3 ac ad ae, V3 af ag ah] 46, q8 aT [V6 i.2.2.1.Kind, sv i.2.2.1.Field, V3 s x y, V6 i.2.2.1.From, V6 i.2.2.1.To, V3 C D G] 42, q8 ba [V6 k.2.2.1.Kind, sv k.2.2.1.Field, V3 I J O, V6 k.2.2.1.From, V6 k.2.2.1.To, V3 R S T] 42, q8 bc [V6 8, sv [], V3 none 0 0, V6 0, V6 0, V3 aw 2 2] 42]) ?_ ?_
 ·refine i7 (mv rfl (lv (l3 (ds := [V3 V W X, V3 Y aa ab]) E6 rfl m12 aK rfl rfl) (lv (l3 (ds := [V3 ac ad ae, V3 af ag ah]) G0 rfl m11 aK rfl rfl) (lv (l3 (ds := [V6 i.2.2.1.Kind, sv i.2.2.1.Field, V3 s x y, V6 i.2.2.1.From, V6 i.2.2.1.To, V3 C D G]) C3 rfl m10 aK rfl rfl) (mv rfl ?_)))))
  obtain ⟨dO, ct, cu⟩ := ob cq
  refine lk b9C (a4j F aK.enter0 (ap.mono ((l.le.trans m.le).trans o)) (aq.mono ((l.le.trans m.le).trans o)) (ar.mono ((l.le.trans m.le).trans o)) (au.mono ((l.le.trans m.le).trans o)) aE aF (aG.mono ((l.le.trans m.le).trans o)) aH aI (aJ.mono ((l.le.trans m.le).trans o)) az ct) ?_
  rintro dP dQ ⟨cv, rfl, am, dR⟩
  have aL : SH _ _ _ _ _ [_, _, _, _, _, _, _, _, _, _, _, _, _, _, _, _, _, _] := SH.call0 aK am
  refine lv (W3 rfl rfl) (mv rfl (bt cu (fun an bd => ?_) (fun an bd => ?_)))
  ·refine lu an (lu an (lu an (lv (K5 rfl an rfl) (mv rfl (lu rfl (lu rfl (lu rfl (lu rfl (lv (K5 rfl rfl rfl) ?_)))))))))
   refine d7 ?_
   cases oi bd
   have cw : SH _ _ _ _ _ [_, _, _, _, _, _, _, _, _, _, _, _, _, _, _, _, _, _] := SH.front (p := [_, _, _, _, _, _, _, _, _, _]) aL.f2
   have cx : SH _ _ _ _ _ [_, _, _, _, _, _, _, _, _, _, _, _, _, _, _, _, _, _] := SH.front (p := [_, _, _, _, _, _, _, _, _, _, _]) cw
   have cy : SH _ _ _ _ _ [_, _, _, _, _, _, _, _, _, _, _, _, _, _, _, _, _, _] := SH.front (p := [_, _, _, _, _, _, _, _, _, _, _, _]) cx
   exact qd ⟨cv, rfl, cy.s, am.le⟩
  refine lg an (l3 (ds := [V6 8, sv [], V3 none 0 0, V6 0, V6 0, V3 aw 2 2]) C3 rfl m0 aL rfl rfl) ?_
  obtain ⟨dS, cz, cA⟩ := ob bd
  refine x9 (wg rfl rfl an) rfl (x8 (vs := [.agg #[V6 8, sv [], V3 none 0 0, V6 0, V6 0, V3 aw 2 2]]) b9E rfl) ((a4h F (q0 := (r5.mk (8 : Int) ([] : k6) ([] : List k6) (0 : Int) (0 : Int) ([i.2.2.1, k.2.2.1] : List r5)))) aL.enter0 (by decide : d9 8) (by decide : ([] : k6).length ≤ maxLen) (b7.nil _ _) I0 I0 (bm.mono am.le) (hG10.keep aL) cz) ?_
  rintro dT dU ⟨cB, rfl, ax⟩
  refine ⟨_, rfl, ?_⟩
  have aM : SH _ _ _ _ _ [_, _, _, _, _, _, _, _, _, _, _, _, _, _, _, _, _, _] := SH.call0 aL ax
  refine lg an (y4 rfl) (lv (j9 rfl an rfl) (mv rfl (bt cA (fun ai be => ?_) (fun ai be => ?_))))
  ·refine lu ai (lu ai (lu ai (lu ai (lv (K5 rfl ai rfl) (d7 ?_)))))
   cases oi be
   have cC : SH _ _ _ _ _ [_, _, _, _, _, _, _, _, _, _, _, _, _, _, _, _, _, _] := SH.front (p := [_, _, _, _, _, _, _, _, _, _]) aM.f2
   have cD : SH _ _ _ _ _ [_, _, _, _, _, _, _, _, _, _, _, _, _, _, _, _, _, _] := SH.front (p := [_, _, _, _, _, _, _, _, _, _, _]) cC
   have cE : SH _ _ _ _ _ [_, _, _, _, _, _, _, _, _, _, _, _, _, _, _, _, _, _] := SH.front (p := [_, _, _, _, _, _, _, _, _, _, _, _]) cD
   exact qd ⟨cB, rfl, cE.s, (am.le.trans ax.le)⟩
  refine lg ai (l3 (ds := [V3 V W X, V3 Y aa ab]) E6 rfl m12 aM rfl rfl) (lg ai (l3 (ds := [V3 ac ad ae, V3 af ag ah]) G0 rfl m11 aM rfl rfl) ?_)
  obtain ⟨dV, cF, cG⟩ := ob be
  refine x9 (wg rfl rfl ai) rfl (x8 (vs := [.agg #[V3 V W X, V3 Y aa ab], .agg #[V3 ac ad ae, V3 af ag ah]]) b9x rfl) (a5B F aM.enter0 (b7.mono ((((l.le.trans m.le).trans o).trans am.le).trans ax.le) ap) (b7.mono ((((l.le.trans m.le).trans o).trans am.le).trans ax.le) aq) (b7.mono ((((l.le.trans m.le).trans o).trans am.le).trans ax.le) ar) (b7.mono ((((l.le.trans m.le).trans o).trans am.le).trans ax.le) au) cF) ?_
  rintro dW dX ⟨cH, rfl, bn⟩
  refine ⟨_, rfl, ?_⟩
  have cI : SH _ _ _ _ _ [_, _, _, _, _, _, _, _, _, _, _, _, _, _, _, _, _, _] := SH.call0 aM bn
  refine lg ai (y4 rfl) (lv (j9 rfl ai rfl) (d7 ?_))
  cases oi cG
  have cJ : SH _ _ _ _ _ [_, _, _, _, _, _, _, _, _, _, _, _, _, _, _, _, _, _] := SH.front (p := [_, _, _, _, _, _, _, _, _, _]) cI.f2
  have cK : SH _ _ _ _ _ [_, _, _, _, _, _, _, _, _, _, _, _, _, _, _, _, _, _] := SH.front (p := [_, _, _, _, _, _, _, _, _, _, _]) cJ
  have cL : SH _ _ _ _ _ [_, _, _, _, _, _, _, _, _, _, _, _, _, _, _, _, _, _] := SH.front (p := [_, _, _, _, _, _, _, _, _, _, _, _]) cK
  exact qd ⟨cH, rfl, cL.s, ((am.le.trans ax.le).trans bn.le)⟩
 rintro _ dY ⟨dZ, rfl, ao, q⟩
 refine j6 (B5 cr rfl (fun cM bf => ?_) (fun cM bf => ?_))
 ·refine sr (mv rfl (lv (l3 (ds := [V3 V W X, V3 Y aa ab]) E6 rfl m0 ao rfl rfl) (lv (l3 (ds := [V3 ac ad ae, V3 af ag ah]) G0 rfl m1 ao rfl rfl) (lv (l3 (ds := [V6 i.2.2.1.Kind, sv i.2.2.1.Field, V3 s x y, V6 i.2.2.1.From, V6 i.2.2.1.To, V3 C D G]) C3 rfl m2 ao rfl rfl) (mv rfl ?_)))))
  obtain ⟨ea, cN, cO⟩ := ob bf
  refine lk b9C (a4j F ao.enter0 (b7.mono (((l.le.trans m.le).trans o).trans q) ap) (b7.mono (((l.le.trans m.le).trans o).trans q) aq) (b7.mono (((l.le.trans m.le).trans o).trans q) ar) (b7.mono (((l.le.trans m.le).trans o).trans q) au) aE aF (b7.mono (((l.le.trans m.le).trans o).trans q) aG) aH aI (b7.mono (((l.le.trans m.le).trans o).trans q) aJ) az cN) ?_
  rintro eb ec ⟨cP, rfl, cQ, ed⟩
  have cR := (ao.c0 cQ).t5
  refine lv (u3 rfl rfl) (av rfl (nq (rr ?_)))
  cases oi cO
  exact ey results9 ⟨cP, rfl, cR.s⟩
 refine i6 (qr (lv (l3 (ds := [V6 k.2.2.1.Kind, sv k.2.2.1.Field, V3 I J O, V6 k.2.2.1.From, V6 k.2.2.1.To, V3 R S T]) C3 rfl m3 ao rfl rfl) (lv (l3 (ds := [V6 i.2.2.1.Kind, sv i.2.2.1.Field, V3 s x y, V6 i.2.2.1.From, V6 i.2.2.1.To, V3 C D G]) C3 rfl m2 ao rfl rfl) ?_)))
 refine J1 (t := E4) (n := 2) (pv := [(0, .agg #[V6 k.2.2.1.Kind, sv k.2.2.1.Field, V3 I J O, V6 k.2.2.1.From, V6 k.2.2.1.To, V3 R S T]), (1, .agg #[V6 i.2.2.1.Kind, sv i.2.2.1.Field, V3 s x y, V6 i.2.2.1.From, V6 i.2.2.1.To, V3 C D G])]) (cs := [V6 k.2.2.1.Kind, sv k.2.2.1.Field, V3 I J O, V6 k.2.2.1.From, V6 k.2.2.1.To, V3 R S T, V6 i.2.2.1.Kind, sv i.2.2.1.Field, V3 s x y, V6 i.2.2.1.From, V6 i.2.2.1.To, V3 C D G]) (xs := [k.2.2.1, i.2.2.1]) wn rfl underlying40 C3 rfl rfl rfl (by kernel_rfl) rfl rfl (M1 (u := .agg #[V6 k.2.2.1.Kind, sv k.2.2.1.Field, V3 I J O, V6 k.2.2.1.From, V6 k.2.2.1.To, V3 R S T]) (z := k.2.2.1) (J0 ⟨I, J, O, R, S, T, rfl, aU, aV, (aW.mono ((m.le.trans o).trans q)), aX, aY, (aZ.mono ((m.le.trans o).trans q))⟩) (M1 (u := .agg #[V6 i.2.2.1.Kind, sv i.2.2.1.Field, V3 s x y, V6 i.2.2.1.From, V6 i.2.2.1.To, V3 C D G]) (z := i.2.2.1) (J0 ⟨s, x, y, C, D, G, rfl, aE, aF, (b7.mono (((l.le.trans m.le).trans o).trans q) aG), aH, aI, (b7.mono (((l.le.trans m.le).trans o).trans q) aJ)⟩) a2n)) ao ?_
 intro aN ee ef H cS cT
 refine lv (A5 (cs := #[V6 8, sv [], V3 none 0 0, V6 0, V6 0, V3 aN 2 2]) a8q C3 rfl (by kernel_rfl)) (al C3 cT fun cU eg cV => ?_)
 have cW : SH _ _ _ _ _ [q8 cU [V6 0, sv [], V3 none 0 0, V6 0, V6 0, V3 none 0 0] 42, _, _, _, _, _, _] := cV
 refine ls [V6 8, sv [], V3 none 0 0, V6 0, V6 0, V3 aN 2 2] (.agg #[V6 8, sv [], V3 none 0 0, V6 0, V6 0, V3 aN 2 2]) C3 cW fun eh aB => (nr (lv (l3 (ds := [V3 V W X, V3 Y aa ab]) E6 rfl m2 aB rfl rfl) (lv (l3 (ds := [V3 ac ad ae, V3 af ag ah]) G0 rfl m3 aB rfl rfl) (lv (l3 (ds := [V6 8, sv [], V3 none 0 0, V6 0, V6 0, V3 aw 2 2]) C3 rfl m6 aB rfl rfl) (mv rfl ?_)))))
 obtain ⟨ei, cX, cY⟩ := ob bf
 refine lk b6t ((a1t F (q2 := (r5.mk (8 : Int) ([] : k6) ([] : List k6) (0 : Int) (0 : Int) ([i.2.2.1, k.2.2.1] : List r5)))) aB.enter0 (b7.mono ((((l.le.trans m.le).trans o).trans q).trans H) ap) (b7.mono ((((l.le.trans m.le).trans o).trans q).trans H) aq) (b7.mono ((((l.le.trans m.le).trans o).trans q).trans H) ar) (b7.mono ((((l.le.trans m.le).trans o).trans q).trans H) au) (by decide : d9 8) (by decide : ([] : k6).length ≤ maxLen) (b7.nil _ _) I0 I0 (bm.mono (q.trans H)) az (hG10.keep aB) hD cX) ?_
 rintro ej ek ⟨el, rfl, U, em⟩
 have aC := (aB.c0 U).t7
 refine av rfl (nr (mv rfl (mv rfl (lv (l3 (ds := [V3 V W X, V3 Y aa ab]) E6 rfl m2 aC rfl rfl) (lv (l3 (ds := [V3 ac ad ae, V3 af ag ah]) G0 rfl m3 aC rfl rfl) (lv (l3 (ds := [V6 k.2.2.1.Kind, sv k.2.2.1.Field, V3 I J O, V6 k.2.2.1.From, V6 k.2.2.1.To, V3 R S T]) C3 rfl m5 aC rfl rfl) (mv rfl ?_)))))))
 obtain ⟨en, cZ, da⟩ := ob cY
 refine lk b6t (a1t F aC.enter0 (b7.mono (((((l.le.trans m.le).trans o).trans q).trans H).trans U.le) ap) (b7.mono (((((l.le.trans m.le).trans o).trans q).trans H).trans U.le) aq) (b7.mono (((((l.le.trans m.le).trans o).trans q).trans H).trans U.le) ar) (b7.mono (((((l.le.trans m.le).trans o).trans q).trans H).trans U.le) au) aU aV (b7.mono ((((m.le.trans o).trans q).trans H).trans U.le) aW) aX aY (b7.mono ((((m.le.trans o).trans q).trans H).trans U.le) aZ) az (hG10.keep aC) hD cZ) ?_
 rintro eo ep ⟨db, rfl, aD, eq⟩
 have ay := (aC.c0 aD).t7
 refine lv (s6 rfl rfl) (lv (u3 rfl rfl) (mv rfl (bt da (fun aj bg => ?_) (fun aj bg => ?_))))
 ·refine lg aj (l3 (ds := [V3 V W X, V3 Y aa ab]) E6 rfl m2 ay rfl rfl) (lg aj (l3 (ds := [V3 ac ad ae, V3 af ag ah]) G0 rfl m3 ay rfl rfl) (lg aj (l3 (ds := [V6 8, sv [], V3 none 0 0, V6 0, V6 0, V3 aN 2 2]) C3 rfl m0 ay rfl rfl) (lg aj (d6 rfl) ?_)))
  obtain ⟨es, dc, dd⟩ := ob bg
  refine x9 (wg rfl rfl aj) rfl (x8 (vs := [.agg #[V3 V W X, V3 Y aa ab], .agg #[V3 ac ad ae, V3 af ag ah], .agg #[V6 8, sv [], V3 none 0 0, V6 0, V6 0, V3 aN 2 2], V6 i.2.2.2]) b6t rfl) ((a1t F (q2 := (r5.mk (8 : Int) ([] : k6) ([] : List k6) (0 : Int) (0 : Int) ([k.2.2.1, i.2.2.1] : List r5)))) ay.enter0 (b7.mono ((((((l.le.trans m.le).trans o).trans q).trans H).trans U.le).trans aD.le) ap) (b7.mono ((((((l.le.trans m.le).trans o).trans q).trans H).trans U.le).trans aD.le) aq) (b7.mono ((((((l.le.trans m.le).trans o).trans q).trans H).trans U.le).trans aD.le) ar) (b7.mono ((((((l.le.trans m.le).trans o).trans q).trans H).trans U.le).trans aD.le) au) (by decide : d9 8) (by decide : ([] : k6).length ≤ maxLen) (b7.nil _ _) I0 I0 (cS.mono (U.le.trans aD.le)) az (hG10.keep ay) hD dc) ?_
  rintro et eu ⟨de, rfl, df, ev⟩
  refine ⟨_, rfl, ?_⟩
  have dg := (ay.c0 df).t7
  refine lg aj (d6 rfl) (lg aj (u3 rfl rfl) (lv (j3 rfl aj rfl) (av rfl (nq (i9 ?_)))))
  cases oi dd
  exact ey results9 ⟨de, rfl, dg.s⟩
 iterate 7 refine lu aj ?_
 refine lv (F7 rfl aj rfl) (av rfl (nq (i9 ?_)))
 cases oi bg
 exact ey results9 ⟨db, rfl, ay.s⟩
end Go.Proofs.YtmkhlppjphodfaaGreatDoor
